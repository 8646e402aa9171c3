/-
  Merged: EnK, CntW, RSz, Ends, EndR, EndW, FoMt, FoLo, Fine, Loo, Men, Can, EnU, Dep, TSzR.
-/
import Derived.Deep.AppendLies
import Derived.Test.YtdboloabpjmgaaaMMay3
/-! EnK -/
namespace Go.Proofs.Ytdboloabpjmgaaa
open Go.RowKit Go.Proofs.YtdboloabpjmgaaaW.PrintWords Go.RegionInvYtdboloabpjmgaaa

/-- The nine cells of a term with a number. -/
def enC (p : Pl) (x : Tm × Int) : List Value := tmC p x.1 ++ [.int .i64 x.2]
theorem enC_len (p : Pl) (x : Tm × Int) : (enC p x).length = 9 := rfl
/-- The row, of one's own; the terms' parts lie below lo, in blocks of S. -/
def KidsE (w : World) (S : Nat → Prop) (lo : Nat) (V : Value) (xs : List (Tm × Int)) : Prop :=
  ∃ (cells : List Value) (q : Nat → Pl), w.ownsRow lo 81 9 V xs.length cells ∧
    ∀ (i : Nat) (x : Tm × Int), xs[i]? = some x → (∀ (j : Nat) (v : Value), (enC (q i) x)[j]? = some v → cells[i * 9 + j]? = some v) ∧ TmS w S (q i) x.1
theorem KidsE.nil (w : World) (S : Nat → Prop) (lo : Nat) : KidsE w S lo (.slice none 0 0) [] := ⟨[], fun _ => default, own_nil _ _ _ _, fun i x h => by simp at h⟩
theorem KidsE.later {w w' : World} {S : Nat → Prop} {lo : Nat} {V : Value} {xs : List (Tm × Int)} (h : KidsE w S lo V xs) (hb : Below w.heap.size w w') : KidsE w' S lo V xs := by
  obtain ⟨cells, q, ho, hk⟩ := h
  exact ⟨cells, q, pw_own_below ho hb, fun i x hx => ⟨(hk i x hx).1, (hk i x hx).2.later hb⟩⟩
theorem KidsE.push {w w1 : World} {S : Nat → Prop} {lo : Nat} {V v1 : Value} {xs : List (Tm × Int)} {x : Tm × Int} {p : Pl} {cells : List Value} {q : Nat → Pl} (hS : ∀ b, S b → b < lo) (ho : w.ownsRow lo 81 9 V xs.length cells)
    (hk : ∀ (i : Nat) (x : Tm × Int), xs[i]? = some x → (∀ (j : Nat) (v : Value), (enC (q i) x)[j]? = some v → cells[i * 9 + j]? = some v) ∧ TmS w S (q i) x.1)
    (hx : TmS w S p x.1) (ho1 : w1.ownsRow lo 81 9 v1 (xs.length + 1) (cells ++ enC p x))
    (hg : w.grownBy w1 V.ownBlock) : KidsE w1 S lo v1 (xs ++ [x]) := by
  have keep : ∀ {p : Pl} {y : Tm}, TmS w S p y → TmS w1 S p y := fun h => h.same fun k hs hz => hg.block k hz fun e => by
    have := own_base ho k e.symm
    have := hS k hs
    omega
  have hl := own_len ho
  refine ⟨_, fun i => if i = xs.length then p else q i, by simpa using ho1, fun i y hy => ?_⟩
  rcases Nat.lt_or_ge i xs.length with hi | hi
  · rw [List.getElem?_append_left hi] at hy
    obtain ⟨h1, h2⟩ := hk i y hy
    simp only [if_neg (show ¬ i = xs.length by omega)]
    refine ⟨fun j v hv => ?_, keep h2⟩
    have hj : j < 9 := by have := (List.getElem?_eq_some_iff.1 hv).1; rwa [enC_len] at this
    rw [List.getElem?_append_left (by omega)]
    exact h1 j v hv
  · rw [List.getElem?_append_right hi] at hy
    have hi2 : i = xs.length := by
      cases e : i - xs.length with
      | zero => omega
      | succ j => rw [e] at hy; simp at hy
    subst hi2
    obtain rfl : x = y := by simpa using hy
    simp only [↓reduceIte]
    refine ⟨fun j v hv => ?_, keep hx⟩
    rw [List.getElem?_append_right (by omega), show xs.length * 9 + j - cells.length = j by omega]
    exact hv
/-- The nodes without kids, each with how many binders are around it. -/
def endsP (t : Tm) (d : Int) : List (Tm × Int) := if nK t = 0 then [(t, d)] else ((List.finRange (nK t)).map fun i => endsP (kidF t i) (d + moreZ t i)).flatten
termination_by SizeOf.sizeOf t
decreasing_by exact kidF_lt t i
theorem ends_leaf {t : Tm} {d : Int} (h : nK t = 0) : endsP t d = [(t, d)] := by rw [endsP, if_pos h]
theorem ends_node {t : Tm} {d : Int} (h : nK t ≠ 0) : endsP t d = ((List.finRange (nK t)).map fun i => endsP (kidF t i) (d + moreZ t i)).flatten := by rw [endsP, if_neg h]
end Go.Proofs.Ytdboloabpjmgaaa

/-! CntW -/
namespace Go.Proofs.Ytdboloabpjmgaaa
open Go.RowKit Go.Proofs.YtdboloabpjmgaaaW.PrintWords Go.RegionInvYtdboloabpjmgaaa

theorem below_drewN {B : Nat} {w w' : World} (h : Below B w w') (n : Nat) : Below B w (w'.drewN n) := ⟨h.os, h.tape, h.output, h.size, h.block⟩
set_option maxHeartbeats 4000000 in
theorem refleaf_calls (t : Tm) (p : Pl) (w : World) (hl : t.kids.length ≤ 9223372036854775807) : Calls Try.prog 77 #[tmV p t] w fun e w' => e = .returned (.bool (leafR t)) ∧ Below w.heap.size w w' := by
  obtain ⟨W, hW⟩ : ∃ W, W = w.alloc (tmO p t) := ⟨_, rfl⟩
  have hb : Below w.heap.size w W := by rw [hW]; exact below_alloc (Below.refl _ _) _
  have HX := Aside0.mk (show W.heap[w.heap.size]? = some (tmO p t) by rw [hW]; exact blk_new _ _)
  have HB := Aside0.mk hb
  clear hb
  unfold tmV
  unfold tmO at hW
  obtain ⟨tk, htk⟩ : ∃ x, t.kind = x := ⟨_, rfl⟩
  obtain ⟨L, hL⟩ : ∃ x, t.kids.length = x := ⟨_, rfl⟩
  obtain ⟨c0, c1, c2, c3, c4, c5, c6, c7⟩ := row8 HX.out
  rw [htk] at hW c0 ⊢
  rw [hL] at hW c7 hl ⊢
  obtain ⟨ar, har⟩ : ∃ x, x = arZ tk := ⟨_, rfl⟩
  have HR := Aside0.mk (show leafR t = decide (ar < 0 ∨ (L : Int) < ar) by unfold leafR; rw [htk, hL, har])
  have HAC := Aside0.mk (show ∀ w, Calls Try.prog 39 #[.int .i64 tk] w fun e w' => e = .returned (.int .i64 ar) ∧ w' = w from fun w => by rw [har]; exact refkids_calls _ _)
  clear htk hL har c1 c2 c3 c4 c5 c6
  go_enter Try.func77, Try.ntmps77
  go_upto_region 1 with (fail)
  rw [← hW]
  clear hW
  by_cases ha : ar < 0
  · have ha' : decide (ar < 0) = true := by simp [ha]
    have HZ := Aside0.mk (show leafR t = true by rw [HR.out]; exact decide_eq_true (.inl ha))
    go_quiet ((go_at_call 39; exact Calls.quiet_of_same (HAC.out _)))
    go_wp2
    go_ret
    rw [HZ.out]
    exact ⟨rfl, below_drewN HB.out _⟩
  · have ha' : decide (ar < 0) = false := by simp; omega
    have HZ := Aside0.mk (show leafR t = decide ((L : Int) < ar) by rw [HR.out]; exact decide_eq_decide.2 ⟨fun h => h.resolve_left ha, .inr⟩)
    go_quiet ((go_at_call 39; exact Calls.quiet_of_same (HAC.out _)))
    go_wp2
    go_ret
    rw [HZ.out]
    exact ⟨rfl, below_drewN HB.out _⟩
def CntPost (g : Nat) (w : World) (r : Bool × Int) (e : Ending) (w' : World) : Prop := e = .returned (.bool r.1) ∧ NumAt w' g r.2 ∧ Chg (fun k => k = g) w w'
theorem leafAt (t : Tm) (p : Pl) (w W : World) (B : Nat) (v : Value) (hv : v = tmV p t) (hl : t.kids.length ≤ 9223372036854775807) :
    Calls Try.prog 77 #[v] w fun e w' => e = .returned (.bool (leafR t)) ∧ Below w.heap.size w w' := hv ▸ refleaf_calls t p w hl
set_option maxRecDepth 100000 in
set_option maxHeartbeats 16000000 in
theorem refcount_calls (N : Nat) : ∀ (t : Tm), SizeOf.sizeOf t < N → ∀ (p : Pl) (d n : Int) (g B : Nat) (w : World), TmIn w B p t → NumAt w g n → B ≤ g → 0 ≤ n → n ≤ 20000 → 0 ≤ d → d ≤ 2001 →
    Calls Try.prog 67 #[tmV p t, .int .i64 d, .pointer (some ⟨g, 0, none⟩)] w (CntPost g w (cntP t d n)) := by
  induction N with
  | zero => intro t h; omega
  | succ N ih =>
    intro t hN p d n g B w hin hg hBg hn0 hn1 hd0 hd1
    have IH := Aside0.mk ih
    have HNN := Aside0.mk hN
    obtain ⟨W, hW⟩ : ∃ W, W = (w.setCell ⟨g, 0, none⟩ (.int .i64 (n + 1))).alloc (tmO p t) := ⟨_, rfl⟩
    have hz1 := blk_lt hg
    have cs := chg_set w g 0 (.int .i64 (n + 1))
    have hch : Chg (fun k => k = g) w W := by rw [hW]; exact chg_trans cs (chg_alloc _ _ _)
    have HCH := Aside0.mk hch
    have K1 := Aside0.mk (show NumAt W g (n + 1) by rw [hW]; exact (hg.set _).alloc _)
    have HX := Aside0.mk (show W.heap[w.heap.size]? = some (tmO p t) by rw [hW]; have := blk_new (w.setCell ⟨g, 0, none⟩ (.int .i64 (n + 1))) (tmO p t); simpa [World.setCell] using this)
    have hgz := hg.cell
    have hfz := blk_frozen hg 0
    have HIN := Aside0.mk (hin.stay (hch.below (fun k e => by omega) (by omega)))
    have hlen := hin.len
    have HKEEP := Aside0.mk (show ∀ (wr : World), Chg (fun k => k = g) w wr → ∀ j, j < B → wr.heap[j]? = W.heap[j]? from fun wr hc j hj => ((hc.block j (by omega) (by omega)).trans (hch.block j (by omega) (by omega)).symm))
    have hbd := cnt_bd _ t (Nat.lt_succ_self _) d n hn1
    have HBD := Aside0.mk hbd
    have HGZ := Aside0.mk (show w.heap.size + 1 ≤ W.heap.size by rw [hW]; simp [World.setCell])
    clear ih hN hin hg cs hch hbd
    obtain ⟨pA, pc, pB, pd, pK, pe⟩ := p
    dsimp only at hlen
    unfold tmV
    unfold tmO at hW
    dsimp only
    obtain ⟨c0, c1, c2, c3, c4, c5, c6, c7⟩ := row8 HX.out
    dsimp only at c5 c6 c7
    clear c1 c2 c3 c4 c5 c6
    obtain ⟨tk, htk⟩ : ∃ x, t.kind = x := ⟨_, rfl⟩
    obtain ⟨L, hL⟩ : ∃ x, t.kids.length = x := ⟨_, rfl⟩
    rw [htk] at hW c0 ⊢
    rw [hL] at hW c7 hlen ⊢
    have HTK := Aside0.mk htk
    have HL := Aside0.mk hL
    have hL9 : L ≤ 9223372036854775807 := by omega
    have HLEAF := Aside0.mk (show ∀ w, Calls Try.prog 77 #[.agg #[.int .i64 tk, .int .i64 t.num, .string t.name, .int .i64 t.lv.kind, .int .i64 t.lv.num, .slice pA t.lv.kids.length pc, .slice pB t.ls.length pd, .slice pK L pe]] w fun e w' => e = .returned (.bool (leafR t)) ∧ Below w.heap.size w w' from fun w => leafAt t ⟨pA, pc, pB, pd, pK, pe⟩ w w 0 _ (by rw [← htk, ← hL]; rfl) (by omega))
    have HX' := Aside0.mk (show W.heap[w.heap.size]? = some (.cells #[.int .i64 tk, .int .i64 t.num, .string t.name, .int .i64 t.lv.kind, .int .i64 t.lv.num, .slice pA t.lv.kids.length pc, .slice pB t.ls.length pd, .slice pK L pe] 28 (0, 0)) by rw [← htk, ← hL]; exact HX.out)
    clear htk hL HX
    go_enter Try.func67, Try.ntmps67
    go_upto_region 2 with (fail)
    rw [← hW]
    clear hW
    by_cases q : 2000 < d
    · have HE := Aside0.mk (cnt_deep (t := t) (n := n) q)
      go_wp2
      go_ret
      rw [HE.out]
      exact ⟨rfl, K1.out, HCH.out⟩
    · have Q := Aside0.mk q
      have q1 : d ≤ 2000 := by omega
      clear q
      cases hlf : leafR t with
      | true =>
        have HLF := Aside0.mk hlf
        have HE := Aside0.mk (cnt_leaf (n := n) Q.out hlf)
        clear hlf
        go_wp2_with (first
          | (refine wpList_load_row rfl 28 _ rfl w.heap.size rfl 28 _ (0, 0) _ HX'.out Try.underlying28 rfl (by kernel_rfl) ?_)
          | (go_at_call 77; go_must (refine (HLEAF.out _).mono ?_; rintro e w2 ⟨rfl, hb⟩; rw [HLF.out]; have HB2 := Aside0.mk hb; clear hb)))
        go_ret
        rw [HE.out]
        exact ⟨rfl, NumAt.below K1.out HB2.out, chg_trans HCH.out (Chg.of_below HB2.out)⟩
      | false =>
        have HLF := Aside0.mk hlf
        have HE := Aside0.mk (cnt_go (n := n) Q.out hlf)
        obtain ⟨hk1, hk2, hk3⟩ := nK_eq hlf
        obtain ⟨ar, har⟩ : ∃ x, nK t = x := ⟨_, rfl⟩
        have HNK := Aside0.mk har
        have HAC := Aside0.mk (show ∀ w, Calls Try.prog 39 #[.int .i64 tk] w fun e w' => e = .returned (.int .i64 (ar : Int)) ∧ w' = w from fun w => by rw [← har, hk1, HTK.out]; exact refkids_calls _ _)
        have har3 : ar ≤ 3 := by rw [← har]; exact nK_le3 t
        have harL : ar ≤ L := by rw [← har, ← HL.out]; exact nK_le t
        have hare : ar ≤ pe := by omega
        have hareI : (ar : Int) ≤ pe := by omega
        clear hlf hk1 hk2 hk3 har
        go_upto_region 6 with (first
          | (refine wpList_load_row rfl 28 _ rfl w.heap.size rfl 28 _ (0, 0) _ HX'.out Try.underlying28 rfl (by kernel_rfl) ?_)
          | (go_at_call 77; go_must (refine (HLEAF.out _).mono ?_; rintro e w2 ⟨rfl, hb⟩; rw [HLF.out]; have HB2 := Aside0.mk hb; have HX2 := Aside0.mk ((hb.block _ (blk_lt HX'.out)).trans HX'.out); clear hb)))
        clear c0 c7
        have c0 : w2.cell? ⟨w.heap.size, 0, none⟩ = some (.int .i64 tk) := by rw [cell_of_row _ _ _ _ _ _ HX2.out]; rfl
        have c7 : w2.cell? ⟨w.heap.size, 7, none⟩ = some (.slice pK L pe) := by rw [cell_of_row _ _ _ _ _ _ HX2.out]; rfl
        go_quiet ((go_at_call 39; exact Calls.quiet_of_same (HAC.out _)))
        have HCW := Aside0.mk (show Chg (fun k => k = g) w w2 from chg_trans HCH.out (Chg.of_below HB2.out))
        have HNW := Aside0.mk (NumAt.below K1.out HB2.out)
        clear c0 c7 K1 HCH HX' HLEAF HX2 HB2
        obtain ⟨qq, hq⟩ := HIN.out.kid
        have HQ := Aside0.mk hq
        clear hq
        go_wp2
        go_loopw [25] (fun i wr => ∃ (k : Nat) (m : Int), i = .int .i64 k ∧ k ≤ ar ∧ 0 ≤ m ∧ m ≤ 20001 ∧ Aside0 (runL (kidsC t d) ((List.finRange (nK t)).drop k) m = runL (kidsC t d) (List.finRange (nK t)) (n + 1)) ∧ Aside0 (NumAt wr g m) ∧ Aside0 (Chg (fun k => k = g) w wr)) (fun i _ => ar - (intOf i).toNat)
        case atStart => exact ⟨0, n + 1, rfl, Nat.zero_le _, by omega, by omega, ⟨by rw [List.drop_zero]⟩, ⟨HNW.out⟩, ⟨chg_drewN HCW.out _⟩⟩
        case round =>
          clear HCW HNW
          obtain ⟨k, m, rfl, hk, hm0, hm1, HK, HNM, HCM⟩ := hrel
          have kc := HNM.out.cell
          have kf := blk_frozen HNM.out 0
          have kz := blk_lt HNM.out
          by_cases hlt : k < ar
          · have hkn : k < nK t := by rw [HNK.out]; exact hlt
            have hx := kidF_get t ⟨k, hkn⟩
            have HDF := Aside0.mk (drop_fin hkn)
            obtain ⟨x, hxe⟩ : ∃ x, kidF t ⟨k, hkn⟩ = x := ⟨_, rfl⟩
            have HXL := Aside0.mk (show SizeOf.sizeOf x < SizeOf.sizeOf t by rw [← hxe]; exact kidF_lt t _)
            rw [hxe] at hx
            obtain ⟨⟨bk, o, hpK, hSb, hcells⟩, hxin⟩ := HQ.out k x hx
            try dsimp only at hpK
            have hbk : ∀ j v, (tmC (qq k) x)[j]? = some v → wr.cell? ⟨bk, o + k * 8 + j, none⟩ = some v := fun j v hv => (cell_same (HKEEP.out wr HCM.out bk hSb)).trans (hcells j v hv)
            have d0 := hbk 0 _ rfl
            have d1 := hbk 1 _ rfl
            have d2 := hbk 2 _ rfl
            have d3 := hbk 3 _ rfl
            have d4 := hbk 4 _ rfl
            have d5 := hbk 5 _ rfl
            have d6 := hbk 6 _ rfl
            have d7 := hbk 7 _ rfl
            rw [Nat.add_zero] at d0
            have HXIN := Aside0.mk (show TmIn wr B (qq k) x from TmS.same hxin fun j hj _ => HKEEP.out wr HCM.out j hj)
            have hbr : B ≤ wr.heap.size := by have := HCM.out.size; omega
            have HPK := Aside0.mk hpK
            rw [hpK]
            have HSTEP := Aside0.mk (show runL (kidsC t d) ((List.finRange (nK t)).drop k) m = if (kidsC t d ⟨k, hkn⟩ m).1 = true then runL (kidsC t d) ((List.finRange (nK t)).drop (k + 1)) (kidsC t d ⟨k, hkn⟩ m).2 else (false, (kidsC t d ⟨k, hkn⟩ m).2) by rw [HDF.out, runL])
            by_cases hm : 20000 < m
            · have HZ := Aside0.mk (show cntP t d n = (false, m) by
                have h1 : kidsC t d ⟨k, hkn⟩ m = (false, m) := if_pos hm
                have h2 := HSTEP.out
                rw [h1, if_neg (fun h => by cases h)] at h2
                rw [HE.out, ← HK.out, h2]; rfl)
              clear hcells hx hxin hbk hpK hkn hxe HSTEP HDF
              go_wp2
              go_ret
              rw [HZ.out]
              exact ⟨rfl, HNM.out.alloc _, chg_trans HCM.out (chg_alloc _ _ _)⟩
            · obtain ⟨ev, m2, hev⟩ : ∃ ev m2, cntP x (d + 1) m = (ev, m2) := ⟨_, _, rfl⟩
              have HEV := Aside0.mk hev
              have hkc : kidsC t d ⟨k, hkn⟩ m = (ev, m2) := by rw [← hev, ← hxe]; exact if_neg hm
              have hb2 := cnt_bd _ x (Nat.lt_succ_self _) (d + 1) m (by omega)
              rw [hev] at hb2
              obtain ⟨b1, b2⟩ := hb2
              simp only at b1 b2
              have HST := Aside0.mk (show runL (kidsC t d) ((List.finRange (nK t)).drop k) m = if ev = true then runL (kidsC t d) ((List.finRange (nK t)).drop (k + 1)) m2 else (false, m2) by have h := HSTEP.out; rw [hkc] at h; exact h)
              clear hcells hx hxin hbk hpK hkn hxe HSTEP HDF hev hkc
              cases ev with
              | true =>
                have HK2 := Aside0.mk ((HST.out.trans (if_pos rfl)).symm.trans HK.out)
                clear HST
                go_wp2_with (go_at_call 67; go_must (refine (IH.out x (by have := HXL.out; have := HNN.out; omega) (qq k) (d + 1) m g B _ (TmIn.stay HXIN.out ((Below.refl _ _).alloc (by omega) _)) (HNM.out.alloc _) (by omega) hm0 (by omega) (by omega) (by omega)).mono ?_; rintro e w3 ⟨rfl, hg1, hc1⟩; rw [HEV.out] at hg1 ⊢; have HG2 := Aside0.mk hg1; have HC3 := Aside0.mk (chg_trans HCM.out (chg_trans (chg_alloc _ _ _) hc1)); clear hg1 hc1))
                go_roundw
                case rel => exact ⟨k + 1, m2, by go_num, by omega, by omega, by omega, HK2, HG2, HC3⟩
                case measure => (simp [intOf]; try omega)
              | false =>
                have HZ := Aside0.mk (show cntP t d n = (false, m2) by rw [HE.out, ← HK.out, HST.out, if_neg (by decide)]; rfl)
                clear HST
                go_wp2_with (go_at_call 67; go_must (refine (IH.out x (by have := HXL.out; have := HNN.out; omega) (qq k) (d + 1) m g B _ (TmIn.stay HXIN.out ((Below.refl _ _).alloc (by omega) _)) (HNM.out.alloc _) (by omega) hm0 (by omega) (by omega) (by omega)).mono ?_; rintro e w3 ⟨rfl, hg1, hc1⟩; rw [HEV.out] at hg1 ⊢; have HG2 := Aside0.mk hg1; have HC3 := Aside0.mk (chg_trans HCM.out (chg_trans (chg_alloc _ _ _) hc1)); clear hg1 hc1))
                go_ret
                rw [HZ.out]
                exact ⟨rfl, HG2.out, HC3.out⟩
          · obtain rfl : k = ar := by omega
            have hlt' : decide ((k : Int) < k) = false := by simp
            have HZ := Aside0.mk (show cntP t d n = (decide (m ≤ 20000), m) by rw [HE.out, ← HK.out, List.drop_of_length_le (by rw [List.length_finRange, HNK.out]; exact Nat.le_refl _)]; rfl)
            go_wp2
            go_ret
            rw [HZ.out]
            exact ⟨rfl, HNM.out, HCM.out⟩
set_option maxHeartbeats 4000000 in
theorem tooGreat_calls (t : Tm) (p : Pl) (w : World) (hin : TmIn w w.heap.size p t) : Calls Try.prog 26 #[tmV p t] w fun e w' => e = .returned (.bool (!decide (okT t))) ∧ Below w.heap.size w w' := by
  have HIN := Aside0.mk hin
  obtain ⟨W, hW⟩ : ∃ W, W = (w.alloc (tmO p t)).alloc (.cells #[.int .i64 0] 3 (0, 0)) := ⟨_, rfl⟩
  have hb : Below w.heap.size w W := by rw [hW]; exact below_alloc (below_alloc (Below.refl _ _) _) _
  have HX := Aside0.mk (show W.heap[w.heap.size]? = some (tmO p t) by rw [hW]; exact blk_alloc (blk_new _ _) _)
  have HN1 := Aside0.mk (show NumAt W (w.heap.size + 1) 0 by rw [hW]; have := blk_new (w.alloc (tmO p t)) (.cells #[.int .i64 0] 3 (0, 0)); simp only [World.size_alloc] at this; exact this)
  have HB := Aside0.mk hb
  have HV := Aside0.mk (great_ok t)
  clear hin hb
  unfold tmV
  unfold tmO at hW
  go_enter Try.func26, Try.ntmps26
  go_upto_region 2 with (fail)
  rw [← hW]
  clear hW
  go_wp2_with (first
    | (refine wpList_load_row rfl 28 _ rfl w.heap.size rfl 28 _ (0, 0) _ HX.out Try.underlying28 rfl (by kernel_rfl) ?_)
    | (go_at_call 67; go_must (refine (refcount_calls _ t (Nat.lt_succ_self _) p 1 0 (w.heap.size + 1) w.heap.size W (HIN.out.stay HB.out) HN1.out (by omega) (by decide) (by decide) (by decide) (by decide)).mono ?_; rintro e w2 ⟨rfl, -, hC⟩; rw [HV.out]; have HB2 := Aside0.mk (Chg.trans_below HB.out hC (fun k h => by omega) HB.out.size); clear hC)))
  go_ret
  exact ⟨rfl, HB2.out⟩
end Go.Proofs.Ytdboloabpjmgaaa

/-! RSz -/
namespace Go.Proofs.Ytdboloabpjmgaaa
open Go.RowKit Go.Proofs.YtdboloabpjmgaaaW.PrintWords Go.RegionInvYtdboloabpjmgaaa

set_option maxRecDepth 100000 in
set_option maxHeartbeats 4000000 in
theorem refSize_calls (t : Tm) (p : Pl) (w : World) (hin : TmIn w w.heap.size p t) : Calls Try.prog 21 #[tmV p t] w fun e w' => e = .returned (.int .i64 (measP t).1) ∧ Below w.heap.size w w' := by
  have HIN := Aside0.mk hin
  obtain ⟨W, hW⟩ : ∃ W, W = (w.alloc (tmO p t)).alloc (.cells #[.int .i64 0] 3 (0, 0)) := ⟨_, rfl⟩
  have hb : Below w.heap.size w W := by rw [hW]; exact below_alloc (below_alloc (Below.refl _ _) _) _
  have HX := Aside0.mk (show W.heap[w.heap.size]? = some (tmO p t) by rw [hW]; exact blk_alloc (blk_new _ _) _)
  have HN1 := Aside0.mk (show NumAt W (w.heap.size + 1) 0 by rw [hW]; have := blk_new (w.alloc (tmO p t)) (.cells #[.int .i64 0] 3 (0, 0)); simp only [World.size_alloc] at this; exact this)
  have HB := Aside0.mk hb
  have HV := Aside0.mk (great_ok t)
  clear hin hb
  unfold tmV
  unfold tmO at hW
  go_enter Try.func21, Try.ntmps21
  go_upto_region 2 with (fail)
  rw [← hW]
  clear hW
  by_cases hk : okT t
  · have HM := Aside0.mk (show (measP t).1 = (sizeT t : Int) by rw [meas_yes hk])
    have HE := Aside0.mk (show cntP t 1 0 = (true, (sizeT t : Int)) by rw [cnt_ok _ t (Nat.lt_succ_self _) 1 0 (by have := hk.2; omega) (by have := hk.1; omega)]; rw [Int.zero_add])
    clear hk
    go_upto_region 4 with (first
      | (refine wpList_load_row rfl 28 _ rfl w.heap.size rfl 28 _ (0, 0) _ HX.out Try.underlying28 rfl (by kernel_rfl) ?_)
      | (go_at_call 67; go_must (refine (refcount_calls _ t (Nat.lt_succ_self _) p 1 0 (w.heap.size + 1) w.heap.size W (HIN.out.stay HB.out) HN1.out (by omega) (by decide) (by decide) (by decide) (by decide)).mono ?_; rintro e w2 ⟨rfl, hN, hC⟩; rw [HE.out] at hN ⊢; have HN2 := Aside0.mk hN; have HB2 := Aside0.mk (Chg.trans_below HB.out hC (fun k h => by omega) HB.out.size); clear hN hC)))
    have r1 := NumAt.cell HN2.out
    go_wp2
    go_ret
    rw [HM.out]
    exact ⟨rfl, HB2.out⟩
  · have HM := Aside0.mk (show (measP t).1 = 0 by rw [meas_no hk])
    have HE := Aside0.mk (show (cntP t 1 0).1 = false by rw [HV.out, decide_eq_false hk])
    clear hk
    go_wp2_with (first
      | (refine wpList_load_row rfl 28 _ rfl w.heap.size rfl 28 _ (0, 0) _ HX.out Try.underlying28 rfl (by kernel_rfl) ?_)
      | (go_at_call 67; go_must (refine (refcount_calls _ t (Nat.lt_succ_self _) p 1 0 (w.heap.size + 1) w.heap.size W (HIN.out.stay HB.out) HN1.out (by omega) (by decide) (by decide) (by decide) (by decide)).mono ?_; rintro e w2 ⟨rfl, -, hC⟩; rw [HE.out]; have HB2 := Aside0.mk (Chg.trans_below HB.out hC (fun k h => by omega) HB.out.size); clear hC)))
    go_ret
    rw [HM.out]
    exact ⟨rfl, HB2.out⟩
end Go.Proofs.Ytdboloabpjmgaaa

/-! Ends -/
namespace Go.Proofs.Ytdboloabpjmgaaa
open Go.RowKit Go.Proofs.YtdboloabpjmgaaaW.PrintWords Go.RegionInvYtdboloabpjmgaaa

set_option maxHeartbeats 4000000 in
theorem refbinds_calls (t : Tm) (i : Nat) (k : Int) (hk : t.kind = k) (w : World) : Calls Try.prog 100 #[.int .i64 k, .int .i64 i] w fun e w' => e = .returned (.int .i64 (moreZ t i)) ∧ w' = w := by
  obtain ⟨m, hm⟩ : ∃ m, moreZ t i = m := ⟨_, rfl⟩
  obtain ⟨ar, har⟩ : ∃ x, arZ k = x := ⟨_, rfl⟩
  have HAC := Aside0.mk (show ∀ w, Calls Try.prog 39 #[.int .i64 k] w fun e w' => e = .returned (.int .i64 ar) ∧ w' = w from fun w => by rw [← har]; exact refkids_calls _ _)
  have HM := Aside0.mk hm
  have hr := arZ_in k
  rw [har] at hr
  have HE := Aside0.mk (show m = if (i : Int) = ar - 1 ∧ k ≠ 6 then 1 else 0 by rw [← hm]; unfold moreZ; rw [hk, har])
  rw [hm]
  clear hm har hk
  go_enter Try.func100, Try.ntmps100
  by_cases h6 : k = 6
  · have b1 : (k == 6) = true := by simp [h6]
    have b2 : (k != 6) = false := by simp [h6]
    have HZ := Aside0.mk (show m = 0 by rw [HE.out, if_neg (fun h => h.2 h6)])
    clear h6
    go_wp2
    go_ret
    rw [HZ.out]
    exact ⟨rfl, rfl⟩
  · have b1 : (k == 6) = false := by simp [h6]
    have b2 : (k != 6) = true := by simp [h6]
    by_cases hi : (i : Int) = ar - 1
    · have b3 : ((i : Int) == ar - 1) = true := by simp [hi]
      have HZ := Aside0.mk (show m = 1 by rw [HE.out, if_pos ⟨hi, h6⟩])
      clear h6 hi
      go_wp2_with (go_at_call 39; go_must (refine (HAC.out _).mono ?_; rintro e w2 ⟨rfl, rfl⟩))
      go_ret
      rw [HZ.out]
      exact ⟨rfl, rfl⟩
    · have b3 : ((i : Int) == ar - 1) = false := by simp [hi]
      have HZ := Aside0.mk (show m = 0 by rw [HE.out, if_neg (fun h => hi h.1)])
      clear h6 hi
      go_wp2_with (go_at_call 39; go_must (refine (HAC.out _).mono ?_; rintro e w2 ⟨rfl, rfl⟩))
      go_ret
      rw [HZ.out]
      exact ⟨rfl, rfl⟩
theorem infoEn : (Try.prog.info? 81).map (fun i => (i.zero, i.size, i.bytes)) = some (some (.agg #[.int .i64 0, .int .i64 0, .string ⟨#[]⟩, .int .i64 0, .int .i64 0, .slice none 0 0, .slice none 0 0, .slice none 0 0, .int .i64 0]), 9, 128) := by kernel_rfl
end Go.Proofs.Ytdboloabpjmgaaa

/-! EndR -/
namespace Go.Proofs.Ytdboloabpjmgaaa
open Go.RowKit Go.Proofs.YtdboloabpjmgaaaW.PrintWords Go.RegionInvYtdboloabpjmgaaa Go.RegionEYtdboloabpjmgaaa
set_option linter.unusedVariables false

def EndsPost (w : World) (B lo : Nat) (V : Value) (ys : List (Tm × Int)) (e : Ending) (w' : World) : Prop := ∃ V', e = .returned V' ∧ KidsE w' (fun k => k < B) lo V' ys ∧ Grew V V' w w'
def EnF (B lo : Nat) (ys : List (Tm × Int)) (v : Value) (w : World) (O : Nat → Prop) : Prop := KidsE w (fun k => k < B) lo v ys ∧ ∀ k, v.ownBlock = some k → O k
theorem KidsE.same {w w' : World} {S : Nat → Prop} {lo : Nat} {V : Value} {xs : List (Tm × Int)} (h : KidsE w S lo V xs) (h1 : ∀ k, V.ownBlock = some k → w'.heap[k]? = w.heap[k]?) (h2 : ∀ k, S k → k < w.heap.size → w'.heap[k]? = w.heap[k]?) : KidsE w' S lo V xs := by
  obtain ⟨cells, q, ho, hk⟩ := h
  exact ⟨cells, q, ownsRow_same ho h1, fun i x hx => ⟨(hk i x hx).1, (hk i x hx).2.same h2⟩⟩
theorem KidsE.base {w : World} {S : Nat → Prop} {lo : Nat} {V : Value} {xs : List (Tm × Int)} (h : KidsE w S lo V xs) {k : Nat} (hk : V.ownBlock = some k) : lo ≤ k ∧ k < w.heap.size := by
  obtain ⟨cells, q, ho, _⟩ := h
  exact ⟨own_base ho k hk, own_lt ho k hk⟩
theorem stableE_en {w0 : World} {E : Nat → Nat → Prop} {B lo : Nat} {ys : List (Tm × Int)} (hT : ∀ k, k < B → Fix w0 E k) : StableE w0 E (EnF B lo ys) := by
  rintro v w w' O ⟨h, hO⟩ hz hk
  exact ⟨h.same (fun k e => hk k (h.base e).2 (.inr (hO k e))) (fun k hk' hz' => hk k hz' (.inl (hT k hk'))), hO⟩

def en_ops : List Oper := [
  { dst := some 35, op := Go.Op.load 28 (Go.Operand.tmp 8), type := 28, pos := "ref.go:223", after := #[], guard := none },
  { dst := some 36, op := Go.Op.move (Go.Operand.tmp 1), type := 3, pos := "ref.go:223", after := #[], guard := none },
  { dst := some 37, op := Go.Op.fieldAddr 28 (Go.Operand.tmp 3) 0, type := 0, pos := "ref.go:223", after := #[], guard := none },
  { dst := some 38, op := Go.Op.load 3 (Go.Operand.tmp 37), type := 3, pos := "ref.go:223", after := #[{ on := 2, ground := Go.Ground.data }], guard := none },
  { dst := some 39, op := Go.Op.move (Go.Operand.tmp 7), type := 3, pos := "ref.go:223", after := #[], guard := none },
  { dst := some 40, op := Go.Op.call { callee := Go.Callee.value (Go.Operand.func 100), args := #[Go.Operand.tmp 38, Go.Operand.tmp 39], argTypes := #[3, 3] }, type := 3, pos := "ref.go:223", after := #[{ on := 3, ground := Go.Ground.data }, { on := 4, ground := Go.Ground.data }], guard := none },
  { dst := some 41, op := Go.Op.binOp Go.BinOp.add 3 (Go.Operand.tmp 36) (Go.Operand.tmp 40) 3, type := 3, pos := "ref.go:223", after := #[{ on := 1, ground := Go.Ground.data }, { on := 5, ground := Go.Ground.data }], guard := none },
  { dst := some 42, op := Go.Op.move (Go.Operand.tmp 2), type := 78, pos := "ref.go:223", after := #[], guard := none },
  { dst := some 43, op := Go.Op.call { callee := Go.Callee.value (Go.Operand.func 80), args := #[Go.Operand.tmp 35, Go.Operand.tmp 41, Go.Operand.tmp 42], argTypes := #[28, 3, 78] }, type := 78, pos := "ref.go:223", after := #[{ on := 0, ground := Go.Ground.data }, { on := 6, ground := Go.Ground.data }, { on := 7, ground := Go.Ground.data }, { on := 5, ground := Go.Ground.chain }], guard := none },
  { dst := some 2, op := Go.Op.assign (Go.Operand.tmp 43), type := 78, pos := "ref.go:223", after := #[{ on := 8, ground := Go.Ground.data }, { on := 8, ground := Go.Ground.chain }, { on := 0, ground := Go.Ground.phase }, { on := 1, ground := Go.Ground.phase }, { on := 2, ground := Go.Ground.phase }, { on := 3, ground := Go.Ground.phase }, { on := 4, ground := Go.Ground.phase }, { on := 5, ground := Go.Ground.phase }, { on := 6, ground := Go.Ground.phase }, { on := 7, ground := Go.Ground.phase }, { on := 8, ground := Go.Ground.phase }], guard := none }]
def en_F (w0 : World) (Bx Tb lo B : Nat) (q : Pl) (x : Tm) (p : Pl) (t : Tm) (i : Nat) (d : Int) (l : Value) (ys zs : List (Tm × Int)) : Nat → (Nat → Value) → Value → World → (Nat → Prop) → Prop := fun rix => match rix with
  | 0 => fun _ v _ _ => v = tmV q x
  | 1 => fun _ v _ _ => v = .int .i64 d
  | 2 => fun _ v _ _ => v = .pointer (some ⟨Tb, 0, none⟩)
  | 3 => fun _ v _ _ => v = .int .i64 t.kind
  | 4 => fun _ v _ _ => v = .int .i64 i
  | 5 => fun _ v _ _ => v = .int .i64 (moreZ t i)
  | 6 => fun _ v _ _ => v = .int .i64 (d + moreZ t i)
  | 7 => fun _ v _ _ => v = l
  | 8 => fun τ v w O => EnF B lo zs v w O
  | 9 => fun τ v w O => EnF B lo zs v w O
  | _ => fun _ _ _ _ => True
def en_C : Nat → List Nat := fun rix => match rix with
  | 9 => [8]
  | _ => []
theorem en_nw1 : nwB en_ops.toArray 1 = true := by kernel_rfl
theorem en_nw3 : nwB en_ops.toArray 3 = true := by kernel_rfl
theorem en_nw7 : nwB en_ops.toArray 7 = true := by kernel_rfl
theorem en_nw8 : nwB en_ops.toArray 8 = true := by kernel_rfl
set_option maxRecDepth 100000 in
set_option maxHeartbeats 8000000 in
theorem en_obs (w0 : World) (Bx Tb lo B : Nat) (q : Pl) (x : Tm) (p : Pl) (t : Tm) (i : Nat) (d : Int) (l : Value) (ys zs : List (Tm × Int)) (hB : w0.heap[Bx]? = some (tmO q x)) (hT : w0.heap[Tb]? = some (tmO p t)) (hin : TmIn w0 B q x) (hK : KidsE w0 (fun k => k < B) lo l ys) (hBl : B ≤ lo) (hlo : lo ≤ w0.heap.size) (hVB : l.ownBlock ≠ some Bx) (hVT : l.ownBlock ≠ some Tb) (hr : -9223372036854775808 ≤ d + moreZ t i ∧ d + moreZ t i ≤ 9223372036854775807) (hIH : ∀ w, w0.heap.size ≤ w.heap.size → TmIn w B q x → KidsE w (fun k => k < B) lo l ys → Calls Try.prog 80 #[tmV q x, .int .i64 (d + moreZ t i), l] w (EndsPost w B lo l zs)) (Q : Exit → Act → World → Prop) (a0 : Act) (hi1 : a0.tmps.getD 1 undef = .int .i64 d) (hi2 : a0.tmps.getD 2 undef = l) (hi3 : a0.tmps.getD 3 undef = .pointer (some ⟨Tb, 0, none⟩)) (hi7 : a0.tmps.getD 7 undef = .int .i64 i) (hi8 : a0.tmps.getD 8 undef = .pointer (some ⟨Bx, 0, none⟩)) :
    ObsE Try.prog en_ops.toArray Q (est2 8 8 (fun k => l.ownBlock = some k) (fun _ => False)) en_C (en_F w0 Bx Tb lo B q x p t i d l ys zs) a0 w0 en_ops.toArray.toList 0 := by
  have nw1 := en_nw1
  have nw3 := en_nw3
  have nw7 := en_nw7
  have nw8 := en_nw8
  refine ⟨?_, ?_, ?_, ?_, ?_, ?_, ?_, ?_, ?_, ?_, trivial⟩
  · refine ⟨⟨fun τ => stableE_det _, leans_not⟩, ?_⟩
    intro a w O hk
    have e8 : a.eval (.tmp 8) = .pointer (some ⟨Bx, 0, none⟩) := (hk.init 8 (initialB_of_nw nw8)).trans hi8
    have xB := (hk.fix Bx (est2_fix (blk_lt hB) (fun e => hVB e) (fun e => e.elim))).trans hB
    exact obE_loadRow rfl e8 xB Try.underlying28 rfl (by kernel_rfl) (wanted_none rfl) rfl
  · refine ⟨⟨fun τ => stableE_det _, leans_not⟩, ?_⟩
    intro a w O hk
    have e1 : a.eval (.tmp 1) = .int .i64 d := (hk.init 1 (initialB_of_nw nw1)).trans hi1
    exact toE (ob_move rfl e1 (wanted_none rfl) rfl)
  · refine ⟨⟨fun τ => stableE_det _, leans_not⟩, ?_⟩
    intro a w O hk
    have e3 : a.eval (.tmp 3) = .pointer (some ⟨Tb, 0, none⟩) := (hk.init 3 (initialB_of_nw nw3)).trans hi3
    exact obE_run (wanted_none rfl) (by unfold execOp; simp only []; rw [e3]; go_simp) rfl
  · refine ⟨⟨fun τ => stableE_det _, leans_not⟩, ?_⟩
    intro a w O hk
    have e37 : a.eval (.tmp 37) = .pointer (some ⟨Tb, 0, none⟩) := hk.fact 2 _ 37 rfl rfl rfl rfl
    have xT := (hk.fix Tb (est2_fix (blk_lt hT) (fun e => hVT e) (fun e => e.elim))).trans hT
    obtain ⟨p0, p1, p2, p3, p4, p5, p6, p7⟩ := row8 xT
    exact obE_run (wanted_none rfl) (by unfold execOp; simp only []; rw [e37]; go_simp) rfl
  · refine ⟨⟨fun τ => stableE_det _, leans_not⟩, ?_⟩
    intro a w O hk
    have e7 : a.eval (.tmp 7) = .int .i64 i := (hk.init 7 (initialB_of_nw nw7)).trans hi7
    exact toE (ob_move rfl e7 (wanted_none rfl) rfl)
  · refine ⟨⟨fun τ => stableE_det _, leans_not⟩, ?_⟩
    intro a w O hk
    have e38 : a.eval (.tmp 38) = .int .i64 t.kind := hk.fact 3 _ 38 rfl rfl rfl rfl
    have e39 : a.eval (.tmp 39) = .int .i64 i := hk.fact 4 _ 39 rfl rfl rfl rfl
    exact obE_callV #[.int .i64 t.kind, .int .i64 i] rfl rfl rfl rfl (by simp only [List.map_cons, List.map_nil]; rw [e38, e39]) (wanted_none rfl) ((refbinds_calls t i _ rfl w).mono fun e w' h => ⟨h.1, h.2 ▸ Below.refl _ _⟩)
  · refine ⟨⟨fun τ => stableE_det _, leans_not⟩, ?_⟩
    intro a w O hk
    have e36 : a.eval (.tmp 36) = .int .i64 d := hk.fact 1 _ 36 rfl rfl rfl rfl
    have e40 : a.eval (.tmp 40) = .int .i64 (moreZ t i) := hk.fact 5 _ 40 rfl rfl rfl rfl
    have hw9 : IntKind.i64.wrap (d + moreZ t i) = d + moreZ t i := IntWalk.i64_in _ hr
    exact obE_run (wanted_none rfl) (by unfold execOp; simp only []; rw [e36, e40]; go_simp) rfl
  · refine ⟨⟨fun τ => stableE_det _, leans_not⟩, ?_⟩
    intro a w O hk
    have e2 : a.eval (.tmp 2) = l := (hk.init 2 rfl).trans hi2
    exact toE (ob_move rfl e2 (wanted_none rfl) rfl)
  · refine ⟨⟨fun τ => stableE_en (fun k hk' => est2_fix (by have hk' : k < B := hk'; omega) (fun e => by have := hK.base e; have hk' : k < B := hk'; omega) (fun e => e.elim)), leans_not⟩, ?_⟩
    intro a w O hk
    have e35 : a.eval (.tmp 35) = tmV q x := hk.fact 0 _ 35 rfl rfl rfl rfl
    have e41 : a.eval (.tmp 41) = .int .i64 (d + moreZ t i) := hk.fact 6 _ 41 rfl rfl rfl rfl
    have e42 : a.eval (.tmp 42) = l := hk.fact 7 _ 42 rfl rfl rfl rfl
    have hKw := hK.same (w' := w) (fun k e => hk.est 8 _ rfl (.inl rfl) k (.inl ⟨rfl, e⟩)) (fun k hk' _ => hk.fix k (est2_fix (by have hk1 : k < B := hk'; omega) (fun e => by have := hK.base e; have hk1 : k < B := hk'; omega) (fun e => e.elim)))
    have hinw := hin.same (w' := w) (fun k hk' _ => hk.fix k (est2_fix (by have hk1 : k < B := hk'; omega) (fun e => by have := hK.base e; have hk1 : k < B := hk'; omega) (fun e => e.elim)))
    refine obE_call #[tmV q x, .int .i64 (d + moreZ t i), l] rfl rfl rfl rfl (by simp only [List.map_cons, List.map_nil]; rw [e35, e41, e42]) (wanted_none rfl) ((hIH w hk.world.size hinw hKw).mono ?_)
    rintro e w' ⟨V', rfl, hE, hG⟩
    exact ⟨V', fun k => V'.ownBlock = some k, rfl, ⟨hE, fun k h => h⟩, hG.1.mono (fun k h => .inr (.inl ⟨rfl, h⟩)), fun k h => (hG.2 k h).elim (fun h => .inl (.inr (.inl ⟨rfl, h⟩))) (fun h2 => .inr ⟨h2, (hE.base h).2⟩)⟩
  · refine ⟨⟨fun τ => stableE_en (fun k hk' => est2_fix (by have hk' : k < B := hk'; omega) (fun e => by have := hK.base e; have hk' : k < B := hk'; omega) (fun e => e.elim)), leans_not⟩, ?_⟩
    intro a w O hk
    have f43 := hk.fact 8 _ 43 rfl rfl rfl rfl
    have g43 := hk.owns 8 rfl rfl
    exact toE (ob_assignO (O 8) rfl rfl (wanted_none rfl) f43 (fun k h => ⟨8, by simp [en_C], h⟩))
set_option maxRecDepth 100000 in
set_option maxHeartbeats 8000000 in
theorem en_region {Q : Exit → Act → World → Prop} {id : Nat} (w0 : World) (Bx Tb lo B : Nat) (q : Pl) (x : Tm) (p : Pl) (t : Tm) (i : Nat) (d : Int) (l : Value) (ys zs : List (Tm × Int)) {s0 s4 s5 s6 s9 s10 s11 s12 s13 s14 s15 s16 s17 s18 s19 s20 s21 s22 s23 s24 s25 s26 s27 s28 s29 s30 s31 s32 s33 s34 s35 s36 s37 s38 s39 s40 s41 s42 s43 s44 s45 : Value} (hB : w0.heap[Bx]? = some (tmO q x)) (hT : w0.heap[Tb]? = some (tmO p t)) (hin : TmIn w0 B q x) (hK : KidsE w0 (fun k => k < B) lo l ys) (hBl : B ≤ lo) (hlo : lo ≤ w0.heap.size) (hVB : l.ownBlock ≠ some Bx) (hVT : l.ownBlock ≠ some Tb) (hr : -9223372036854775808 ≤ d + moreZ t i ∧ d + moreZ t i ≤ 9223372036854775807) (hIH : ∀ w, w0.heap.size ≤ w.heap.size → TmIn w B q x → KidsE w (fun k => k < B) lo l ys → Calls Try.prog 80 #[tmV q x, .int .i64 (d + moreZ t i), l] w (EndsPost w B lo l zs))
    (hend : ∀ (w' : World) (u2 : Value) (u43 : Value) (O9 : Nat → Prop), Chg (fun k => (fun k => l.ownBlock = some k) k ∨ (fun _ => False) k) w0 w' → (EnF B lo zs u2 w' O9) → (∀ k, O9 k → k < w'.heap.size ∧ ¬ Fix w0 (est2 8 8 (fun k => l.ownBlock = some k) (fun _ => False)) k) → Q .normal { tmps := (s0 :: (.int .i64 d : Value) :: u2 :: (.pointer (some ⟨Tb, 0, none⟩) : Value) :: s4 :: s5 :: s6 :: (.int .i64 i : Value) :: (.pointer (some ⟨Bx, 0, none⟩) : Value) :: s9 :: s10 :: s11 :: s12 :: s13 :: s14 :: s15 :: s16 :: s17 :: s18 :: s19 :: s20 :: s21 :: s22 :: s23 :: s24 :: s25 :: s26 :: s27 :: s28 :: s29 :: s30 :: s31 :: s32 :: s33 :: s34 :: (tmV q x : Value) :: (.int .i64 d : Value) :: (.pointer (some ⟨Tb, 0, none⟩) : Value) :: (.int .i64 t.kind : Value) :: (.int .i64 i : Value) :: (.int .i64 (moreZ t i) : Value) :: (.int .i64 (d + moreZ t i) : Value) :: l :: u43 :: s44 :: s45 :: ([] : List Value)).toArray, defers := [] } w') :
    (Code.region id en_ops.toArray true).wp Try.prog Q { tmps := (s0 :: (.int .i64 d : Value) :: l :: (.pointer (some ⟨Tb, 0, none⟩) : Value) :: s4 :: s5 :: s6 :: (.int .i64 i : Value) :: (.pointer (some ⟨Bx, 0, none⟩) : Value) :: s9 :: s10 :: s11 :: s12 :: s13 :: s14 :: s15 :: s16 :: s17 :: s18 :: s19 :: s20 :: s21 :: s22 :: s23 :: s24 :: s25 :: s26 :: s27 :: s28 :: s29 :: s30 :: s31 :: s32 :: s33 :: s34 :: s35 :: s36 :: s37 :: s38 :: s39 :: s40 :: s41 :: s42 :: s43 :: s44 :: s45 :: ([] : List Value)).toArray, defers := [] } w0 := by
  refine wp_region_est (by kernel_rfl) (est2 8 8 (fun k => l.ownBlock = some k) (fun _ => False)) en_C (en_F w0 Bx Tb lo B q x p t i d l ys zs) (est2_dis (fun k h h2 => h2)) (est2_range (fun k hk => (hK.base hk).2) (fun k hk => hk.elim)) (by rfl) (by kernel_rfl) (en_obs w0.drew Bx Tb lo B q x p t i d l ys zs hB hT (TmS.same hin (fun _ _ _ => rfl)) (hK.same (fun _ _ => rfl) (fun _ _ _ => rfl)) hBl hlo hVB hVT hr (fun w h1 h2 h3 => hIH w h1 h2 h3) _ _ rfl rfl rfl rfl rfl) ?_
  intro a w' O hd hs hb hf hf2 ha hsame
  have hx : ∀ (qi : Nat) (qv : Value), nwB en_ops.toArray qi = true → (s0 :: (.int .i64 d : Value) :: l :: (.pointer (some ⟨Tb, 0, none⟩) : Value) :: s4 :: s5 :: s6 :: (.int .i64 i : Value) :: (.pointer (some ⟨Bx, 0, none⟩) : Value) :: s9 :: s10 :: s11 :: s12 :: s13 :: s14 :: s15 :: s16 :: s17 :: s18 :: s19 :: s20 :: s21 :: s22 :: s23 :: s24 :: s25 :: s26 :: s27 :: s28 :: s29 :: s30 :: s31 :: s32 :: s33 :: s34 :: s35 :: s36 :: s37 :: s38 :: s39 :: s40 :: s41 :: s42 :: s43 :: s44 :: s45 :: ([] : List Value)).toArray.getD qi undef = qv → a.tmps.getD qi undef = qv := fun qi qv h e => (hsame qi (nwB.spec h)).trans e
  have x0 := hx 0 s0 (by kernel_rfl) rfl
  have x1 := hx 1 (.int .i64 d) (by kernel_rfl) rfl
  have x3 := hx 3 (.pointer (some ⟨Tb, 0, none⟩)) (by kernel_rfl) rfl
  have x4 := hx 4 s4 (by kernel_rfl) rfl
  have x5 := hx 5 s5 (by kernel_rfl) rfl
  have x6 := hx 6 s6 (by kernel_rfl) rfl
  have x7 := hx 7 (.int .i64 i) (by kernel_rfl) rfl
  have x8 := hx 8 (.pointer (some ⟨Bx, 0, none⟩)) (by kernel_rfl) rfl
  have x9 := hx 9 s9 (by kernel_rfl) rfl
  have x10 := hx 10 s10 (by kernel_rfl) rfl
  have x11 := hx 11 s11 (by kernel_rfl) rfl
  have x12 := hx 12 s12 (by kernel_rfl) rfl
  have x13 := hx 13 s13 (by kernel_rfl) rfl
  have x14 := hx 14 s14 (by kernel_rfl) rfl
  have x15 := hx 15 s15 (by kernel_rfl) rfl
  have x16 := hx 16 s16 (by kernel_rfl) rfl
  have x17 := hx 17 s17 (by kernel_rfl) rfl
  have x18 := hx 18 s18 (by kernel_rfl) rfl
  have x19 := hx 19 s19 (by kernel_rfl) rfl
  have x20 := hx 20 s20 (by kernel_rfl) rfl
  have x21 := hx 21 s21 (by kernel_rfl) rfl
  have x22 := hx 22 s22 (by kernel_rfl) rfl
  have x23 := hx 23 s23 (by kernel_rfl) rfl
  have x24 := hx 24 s24 (by kernel_rfl) rfl
  have x25 := hx 25 s25 (by kernel_rfl) rfl
  have x26 := hx 26 s26 (by kernel_rfl) rfl
  have x27 := hx 27 s27 (by kernel_rfl) rfl
  have x28 := hx 28 s28 (by kernel_rfl) rfl
  have x29 := hx 29 s29 (by kernel_rfl) rfl
  have x30 := hx 30 s30 (by kernel_rfl) rfl
  have x31 := hx 31 s31 (by kernel_rfl) rfl
  have x32 := hx 32 s32 (by kernel_rfl) rfl
  have x33 := hx 33 s33 (by kernel_rfl) rfl
  have x34 := hx 34 s34 (by kernel_rfl) rfl
  have x35 : a.tmps.getD 35 undef = tmV q x := (hf 0 _ 35 rfl rfl (by decide)).1
  have x36 : a.tmps.getD 36 undef = .int .i64 d := (hf 1 _ 36 rfl rfl (by decide)).1
  have x37 : a.tmps.getD 37 undef = .pointer (some ⟨Tb, 0, none⟩) := (hf 2 _ 37 rfl rfl (by decide)).1
  have x38 : a.tmps.getD 38 undef = .int .i64 t.kind := (hf 3 _ 38 rfl rfl (by decide)).1
  have x39 : a.tmps.getD 39 undef = .int .i64 i := (hf 4 _ 39 rfl rfl (by decide)).1
  have x40 : a.tmps.getD 40 undef = .int .i64 (moreZ t i) := (hf 5 _ 40 rfl rfl (by decide)).1
  have x41 : a.tmps.getD 41 undef = .int .i64 (d + moreZ t i) := (hf 6 _ 41 rfl rfl (by decide)).1
  have x42 : a.tmps.getD 42 undef = l := (hf 7 _ 42 rfl rfl (by decide)).1
  have x44 := hx 44 s44 (by kernel_rfl) rfl
  have x45 := hx 45 s45 (by kernel_rfl) rfl
  have hl : a.tmps = (s0 :: (.int .i64 d : Value) :: (a.tmps.getD 2 undef : Value) :: (.pointer (some ⟨Tb, 0, none⟩) : Value) :: s4 :: s5 :: s6 :: (.int .i64 i : Value) :: (.pointer (some ⟨Bx, 0, none⟩) : Value) :: s9 :: s10 :: s11 :: s12 :: s13 :: s14 :: s15 :: s16 :: s17 :: s18 :: s19 :: s20 :: s21 :: s22 :: s23 :: s24 :: s25 :: s26 :: s27 :: s28 :: s29 :: s30 :: s31 :: s32 :: s33 :: s34 :: (tmV q x : Value) :: (.int .i64 d : Value) :: (.pointer (some ⟨Tb, 0, none⟩) : Value) :: (.int .i64 t.kind : Value) :: (.int .i64 i : Value) :: (.int .i64 (moreZ t i) : Value) :: (.int .i64 (d + moreZ t i) : Value) :: l :: (a.tmps.getD 43 undef : Value) :: s44 :: s45 :: ([] : List Value)).toArray := by
    have h := lit a.tmps 46 hs
    have e : ((List.range 46).map (fun i => a.tmps.getD i undef)).toArray = ((a.tmps.getD 0 undef : Value) :: (a.tmps.getD 1 undef : Value) :: (a.tmps.getD 2 undef : Value) :: (a.tmps.getD 3 undef : Value) :: (a.tmps.getD 4 undef : Value) :: (a.tmps.getD 5 undef : Value) :: (a.tmps.getD 6 undef : Value) :: (a.tmps.getD 7 undef : Value) :: (a.tmps.getD 8 undef : Value) :: (a.tmps.getD 9 undef : Value) :: (a.tmps.getD 10 undef : Value) :: (a.tmps.getD 11 undef : Value) :: (a.tmps.getD 12 undef : Value) :: (a.tmps.getD 13 undef : Value) :: (a.tmps.getD 14 undef : Value) :: (a.tmps.getD 15 undef : Value) :: (a.tmps.getD 16 undef : Value) :: (a.tmps.getD 17 undef : Value) :: (a.tmps.getD 18 undef : Value) :: (a.tmps.getD 19 undef : Value) :: (a.tmps.getD 20 undef : Value) :: (a.tmps.getD 21 undef : Value) :: (a.tmps.getD 22 undef : Value) :: (a.tmps.getD 23 undef : Value) :: (a.tmps.getD 24 undef : Value) :: (a.tmps.getD 25 undef : Value) :: (a.tmps.getD 26 undef : Value) :: (a.tmps.getD 27 undef : Value) :: (a.tmps.getD 28 undef : Value) :: (a.tmps.getD 29 undef : Value) :: (a.tmps.getD 30 undef : Value) :: (a.tmps.getD 31 undef : Value) :: (a.tmps.getD 32 undef : Value) :: (a.tmps.getD 33 undef : Value) :: (a.tmps.getD 34 undef : Value) :: (a.tmps.getD 35 undef : Value) :: (a.tmps.getD 36 undef : Value) :: (a.tmps.getD 37 undef : Value) :: (a.tmps.getD 38 undef : Value) :: (a.tmps.getD 39 undef : Value) :: (a.tmps.getD 40 undef : Value) :: (a.tmps.getD 41 undef : Value) :: (a.tmps.getD 42 undef : Value) :: (a.tmps.getD 43 undef : Value) :: (a.tmps.getD 44 undef : Value) :: (a.tmps.getD 45 undef : Value) :: ([] : List Value)).toArray := rfl
    rw [e, x0, x1, x3, x4, x5, x6, x7, x8, x9, x10, x11, x12, x13, x14, x15, x16, x17, x18, x19, x20, x21, x22, x23, x24, x25, x26, x27, x28, x29, x30, x31, x32, x33, x34, x35, x36, x37, x38, x39, x40, x41, x42, x44, x45] at h
    exact h
  obtain ⟨tmps, defers⟩ := a
  obtain rfl : defers = [] := hd
  have hl' : tmps = _ := hl
  rw [hl']
  have hb' := est2_chg hb
  exact hend w' _ _ (O 9) ⟨hb'.os, hb'.tape, hb'.output, hb'.size, hb'.block⟩ (hf 9 _ 2 rfl rfl (by decide)).1 (hf 9 _ 2 rfl rfl (by decide)).2

end Go.Proofs.Ytdboloabpjmgaaa

/-! EndW -/
namespace Go.Proofs.Ytdboloabpjmgaaa
open Go.RowKit Go.Proofs.YtdboloabpjmgaaaW.PrintWords Go.RegionInvYtdboloabpjmgaaa Go.RegionEYtdboloabpjmgaaa

theorem en_grew {w0 w' : World} {B lo : Nat} {l V : Value} {zs : List (Tm × Int)} {O : Nat → Prop} (hC : Chg (fun k => (fun k => l.ownBlock = some k) k ∨ (fun _ => False) k) w0 w') (hF : EnF B lo zs V w' O)
    (hO : ∀ k, O k → k < w'.heap.size ∧ ¬ Fix w0 (est2 8 8 (fun k => l.ownBlock = some k) (fun _ => False)) k) : KidsE w' (fun k => k < B) lo V zs ∧ Grew l V w0 w' := by
  refine ⟨hF.1, hC.mono fun k h => h.elim id False.elim, fun k hk => ?_⟩
  rcases Nat.lt_or_ge k w0.heap.size with hz | hz
  · by_cases e : l.ownBlock = some k
    · exact .inl e
    · exact absurd (est2_fix hz e (fun h => h.elim)) (hO k (hF.2 k hk)).2
  · exact .inr hz
theorem ends_len (N : Nat) : ∀ (t : Tm), SizeOf.sizeOf t < N → ∀ (d : Int), (endsP t d).length ≤ sizeT t := by
  induction N with
  | zero => intro t h; omega
  | succ N ih =>
    intro t hN d
    by_cases h0 : nK t = 0
    · rw [ends_leaf h0, size_leaf h0]; exact Nat.le_refl _
    · rw [ends_node h0, size_eq]
      have key : ∀ (xs : List (Fin (nK t))), ((xs.map fun i => endsP (kidF t i) (d + moreZ t i)).flatten).length ≤ sumK t xs := by
        intro xs
        induction xs with
        | nil => exact Nat.le_refl _
        | cons x r ihr =>
          have e1 : sumK t (x :: r) = sizeT (kidF t x) + sumK t r := by unfold sumK; rw [List.map_cons, List.sum_cons]
          rw [List.map_cons, List.flatten_cons, List.length_append, e1]
          have := ih (kidF t x) (by have := kidF_lt t x; omega) (d + moreZ t x)
          omega
      have := key (List.finRange (nK t))
      omega
def sumD (t : Tm) (xs : List (Fin (nK t))) : Nat := (xs.map fun i => sizeT (kidF t i)).sum
def endD (t : Tm) (d : Int) (xs : List (Fin (nK t))) : List (Tm × Int) := (xs.map fun i => endsP (kidF t i) (d + moreZ t i)).flatten
set_option maxRecDepth 100000 in
set_option maxHeartbeats 4000000 in
theorem ends_calls (N : Nat) : ∀ (t : Tm), SizeOf.sizeOf t < N → ∀ (p : Pl) (B lo : Nat) (d : Int) (V : Value) (xs : List (Tm × Int)) (w : World), TmIn w B p t → B ≤ lo → lo ≤ w.heap.size → 0 ≤ d → d + depthT t ≤ 10000 → xs.length + sizeT t ≤ 30000 → KidsE w (fun k => k < B) lo V xs →
    Calls Try.prog 80 #[tmV p t, .int .i64 d, V] w (EndsPost w B lo V (xs ++ endsP t d)) := by
  induction N with
  | zero => intro t h; omega
  | succ N ih =>
    intro t hN p B lo d V xs w hin hBl hlo hd0 hd1 hsz hK
    have IH := Aside0.mk ih
    have HNN := Aside0.mk hN
    have HK := Aside0.mk hK
    have hsp := size_pos t
    obtain ⟨cells0, q0, hown0, -⟩ := hK
    obtain ⟨n, hn⟩ : ∃ x, xs.length = x := ⟨_, rfl⟩
    rw [hn] at hown0 hsz
    obtain ⟨A, c, rfl⟩ := own_slice hown0
    have HNX := Aside0.mk hn
    obtain ⟨W, hW⟩ : ∃ W, W = w.alloc (tmO p t) := ⟨_, rfl⟩
    have hb : Below w.heap.size w W := by rw [hW]; exact below_alloc (Below.refl _ _) _
    have HB := Aside0.mk hb
    have HX := Aside0.mk (show W.heap[w.heap.size]? = some (tmO p t) by rw [hW]; exact blk_new _ _)
    have HIN := Aside0.mk hin
    have hlen := hin.len
    have HD := Aside0.mk hd1
    have HSZ := Aside0.mk hsz
    have hn9 : n ≤ 30000 := by omega
    obtain ⟨ar, har⟩ : ∃ x, arZ t.kind = x := ⟨_, rfl⟩
    have HAC := Aside0.mk (show ∀ w, Calls Try.prog 39 #[.int .i64 t.kind] w fun e w' => e = .returned (.int .i64 ar) ∧ w' = w from fun w => by rw [← har]; exact refkids_calls _ _)
    clear ih hN hown0 hin hb hd1 hsz hn hsp
    by_cases h0 : nK t = 0
    · have HEL := Aside0.mk (ends_leaf (d := d) h0)
      cases hlf : leafR t with
      | true =>
        have HLF := Aside0.mk hlf
        clear hlf h0
        unfold tmV
        unfold tmO at hW
        go_enter Try.func80, Try.ntmps80
        go_upto_region 1 with (fail)
        rw [← hW]
        clear hW
        go_upto_region 2 with (first
          | (refine wpList_load_row rfl 28 _ rfl (w.heap.size) rfl 28 _ (0, 0) _ HX.out Try.underlying28 rfl (by kernel_rfl) ?_)
          | (go_at_call 77; go_must (refine (refleaf_calls t p W (by omega)).mono ?_; rintro e w2 ⟨rfl, hb⟩; rw [HLF.out]; have HBW := Aside0.mk hb; have HB2 := Aside0.mk (below_then HB.out HB.out.size hb); have HX2 := Aside0.mk ((hb.block _ (blk_lt HX.out)).trans HX.out); clear hb)))
        obtain ⟨W3, hW3⟩ : ∃ W3, W3 = w2.alloc (.cells (enC p (t, d)).toArray 81 (0, 0)) := ⟨_, rfl⟩
        have hW3' : W3 = _ := hW3
        simp only [enC, tmC, List.cons_append, List.nil_append] at hW3'
        have hb3 : Below w2.heap.size w2 W3 := by rw [hW3]; exact below_alloc (Below.refl _ _) _
        have HB3 := Aside0.mk (below_then HB2.out HB2.out.size hb3)
        have HR3 := Aside0.mk (show W3.heap[w2.heap.size]? = some (.cells (enC p (t, d)).toArray 81 (0, 0)) by rw [hW3]; exact blk_new _ _)
        obtain ⟨cells, q, hown, hkids⟩ := HK.out.later HB3.out
        rw [HNX.out] at hown
        have HOWN := Aside0.mk hown
        have HKID := Aside0.mk hkids
        have hlo3 := Nat.le_trans hlo HB3.out.size
        clear hW3 hb3 hown hkids
        go_wp2_with (first
          | (refine wpList_load_row rfl 28 _ rfl (w.heap.size) rfl 28 _ (0, 0) _ HX2.out Try.underlying28 rfl (by kernel_rfl) ?_)
          | (rw [← hW3']; refine print_append_at lo rfl (.tmp 17) (.tmp 21) 78 81 _ 9 128 rfl Try.underlying78 infoEn rfl (by decide) (by decide) (.slice A n c) n cells (enC p (t, d)) rfl rfl HR3.out rfl (List.all_eq_true.1 rfl) HOWN.out (by omega) hlo3 ?_; intro v1 w1 ho1 hg hat; have HG1 := Aside0.mk (Grew.of_append hg hat); have HE1 := Aside0.mk (KidsE.push (x := (t, d)) (fun b hb => Nat.lt_of_lt_of_le hb hBl) (by rw [HNX.out]; exact HOWN.out) HKID.out (TmIn.stay HIN.out (HB3.out.mono (Nat.le_trans hBl hlo))) (by rw [HNX.out]; exact ho1) hg); clear ho1 hg hat))
        go_ret
        rw [HEL.out]
        exact ⟨v1, rfl, HE1.out, Grew.trans (w1 := W3) ⟨Chg.of_below HB3.out, fun _ h => .inl h⟩ HG1.out⟩
      | false =>
        have HLF := Aside0.mk hlf
        have ha0 : ar = 0 := by have := nK_eq hlf; rw [h0, har] at this; omega
        subst ha0
        clear hlf h0
        unfold tmV
        unfold tmO at hW
        go_enter Try.func80, Try.ntmps80
        go_upto_region 1 with (fail)
        rw [← hW]
        clear hW
        go_upto_region 2 with (first
          | (refine wpList_load_row rfl 28 _ rfl (w.heap.size) rfl 28 _ (0, 0) _ HX.out Try.underlying28 rfl (by kernel_rfl) ?_)
          | (go_at_call 77; go_must (refine (refleaf_calls t p W (by omega)).mono ?_; rintro e w2 ⟨rfl, hb⟩; rw [HLF.out]; have HBW := Aside0.mk hb; have HB2 := Aside0.mk (below_then HB.out HB.out.size hb); have HX2 := Aside0.mk ((hb.block _ (blk_lt HX.out)).trans HX.out); have c0 := (row8 HX2.out).1; clear hb))
          | (go_at_call 39; go_must (refine (HAC.out _).mono ?_; rintro e w3 ⟨rfl, h3⟩; have h3 := h3.symm; subst h3)))
        obtain ⟨W3, hW3⟩ : ∃ W3, W3 = w2.alloc (.cells (enC p (t, d)).toArray 81 (0, 0)) := ⟨_, rfl⟩
        have hW3' : W3 = _ := hW3
        simp only [enC, tmC, List.cons_append, List.nil_append] at hW3'
        have hb3 : Below w2.heap.size w2 W3 := by rw [hW3]; exact below_alloc (Below.refl _ _) _
        have HB3 := Aside0.mk (below_then HB2.out HB2.out.size hb3)
        have HR3 := Aside0.mk (show W3.heap[w2.heap.size]? = some (.cells (enC p (t, d)).toArray 81 (0, 0)) by rw [hW3]; exact blk_new _ _)
        obtain ⟨cells, q, hown, hkids⟩ := HK.out.later HB3.out
        rw [HNX.out] at hown
        have HOWN := Aside0.mk hown
        have HKID := Aside0.mk hkids
        have hlo3 := Nat.le_trans hlo HB3.out.size
        clear hW3 hb3 hown hkids
        go_wp2_with (first
          | (refine wpList_load_row rfl 28 _ rfl (w.heap.size) rfl 28 _ (0, 0) _ HX2.out Try.underlying28 rfl (by kernel_rfl) ?_)
          | (rw [← hW3']; refine print_append_at lo rfl (.tmp 17) (.tmp 21) 78 81 _ 9 128 rfl Try.underlying78 infoEn rfl (by decide) (by decide) (.slice A n c) n cells (enC p (t, d)) rfl rfl HR3.out rfl (List.all_eq_true.1 rfl) HOWN.out (by omega) hlo3 ?_; intro v1 w1 ho1 hg hat; have HG1 := Aside0.mk (Grew.of_append hg hat); have HE1 := Aside0.mk (KidsE.push (x := (t, d)) (fun b hb => Nat.lt_of_lt_of_le hb hBl) (by rw [HNX.out]; exact HOWN.out) HKID.out (TmIn.stay HIN.out (HB3.out.mono (Nat.le_trans hBl hlo))) (by rw [HNX.out]; exact ho1) hg); clear ho1 hg hat))
        go_ret
        rw [HEL.out]
        exact ⟨v1, rfl, HE1.out, Grew.trans (w1 := W3) ⟨Chg.of_below HB3.out, fun _ h => .inl h⟩ HG1.out⟩
    · have hlf : leafR t = false := by
        cases h : leafR t with
        | true => exact absurd (nK_leaf h) h0
        | false => rfl
      obtain ⟨hk1, hk2, hk3⟩ := nK_eq hlf
      rw [har] at hk1 hk2 hk3
      have HLF := Aside0.mk hlf
      have HEL := Aside0.mk (show endsP t d = endD t d (List.finRange (nK t)) from ends_node h0)
      have HSD := Aside0.mk (show sizeT t = 1 + sumD t (List.finRange (nK t)) by rw [sizeT]; rfl)
      obtain ⟨m, hm⟩ : ∃ x, nK t = x := ⟨_, rfl⟩
      rw [hm] at hk1 h0
      subst hk1
      have HNK := Aside0.mk hm
      have hne : ((m : Int) == 0) = false := by simp; omega
      have hm3 : m ≤ 3 := by rw [← hm]; exact nK_le3 t
      have hmL : m ≤ t.kids.length := by omega
      have hme : m ≤ p.e := by omega
      have hmeI : (m : Int) ≤ p.e := by omega
      clear hlf hm hk2 hk3 har
      unfold tmV
      unfold tmO at hW
      go_enter Try.func80, Try.ntmps80
      go_upto_region 1 with (fail)
      rw [← hW]
      clear hW
      go_upto_region 3 with (first
        | (refine wpList_load_row rfl 28 _ rfl (w.heap.size) rfl 28 _ (0, 0) _ HX.out Try.underlying28 rfl (by kernel_rfl) ?_)
        | (go_at_call 77; go_must (refine (refleaf_calls t p W (by omega)).mono ?_; rintro e w2 ⟨rfl, hb⟩; rw [HLF.out]; have HBW := Aside0.mk hb; have HB2 := Aside0.mk (below_then HB.out HB.out.size hb); have HX2 := Aside0.mk ((hb.block _ (blk_lt HX.out)).trans HX.out); have c0 := (row8 HX2.out).1; clear hb))
        | (go_at_call 39; go_must (refine (HAC.out _).mono ?_; rintro e w3 ⟨rfl, h3⟩; have h3 := h3.symm; subst h3)))
      have c7 := (row8 HX2.out).2.2.2.2.2.2.2
      go_quiet ((go_at_call 39; exact Calls.quiet_of_same (HAC.out _)))
      obtain ⟨qq, hq⟩ := HIN.out.kid
      have HQ := Aside0.mk hq
      have HX0 := HX
      clear hq c0 c7 HX
      go_wp2
      go_loopw [2, 30] (fun l i wr => ∃ (k : Nat) (ys : List (Tm × Int)), i = .int .i64 k ∧ k ≤ m ∧ ys.length + sumD t ((List.finRange (nK t)).drop k) ≤ 30000 ∧ Aside0 (ys ++ endD t d ((List.finRange (nK t)).drop k) = xs ++ endsP t d) ∧ Aside0 (KidsE wr (fun k => k < B) lo l ys) ∧ Aside0 (Grew (.slice A n c) l W wr) ∧ Aside0 (wr.heap[w.heap.size]? = some (tmO p t))) (fun _ i _ => m - (intOf i).toNat)
      case atStart =>
        have hbn : Below W.heap.size W (w2.drewN nq) := below_drewN HBW.out _
        exact ⟨0, xs, rfl, Nat.zero_le _, by rw [List.drop_zero]; have := HSZ.out; have := HSD.out; have := HNX.out; omega, ⟨by rw [List.drop_zero, HEL.out]⟩, ⟨HK.out.later (below_drewN HB2.out _)⟩, ⟨⟨Chg.of_below hbn, fun _ h => .inl h⟩⟩, ⟨(hbn.block _ (by have := blk_lt HX0.out; omega)).trans HX0.out⟩⟩
      case round =>
        clear HB2 HX2 HBW
        obtain ⟨k, ys, rfl, hk, hys, HEQ, HKR, HGR, HXR⟩ := hrel
        by_cases hlt : k < m
        · have hkn : k < nK t := by rw [HNK.out]; exact hlt
          have hx := kidF_get t ⟨k, hkn⟩
          have HDF := Aside0.mk (drop_fin hkn)
          have HDK := Aside0.mk (depth_kid t ⟨k, hkn⟩)
          obtain ⟨x, hxe⟩ : ∃ x, kidF t ⟨k, hkn⟩ = x := ⟨_, rfl⟩
          have HXL := Aside0.mk (show SizeOf.sizeOf x < SizeOf.sizeOf t by rw [← hxe]; exact kidF_lt t _)
          rw [hxe] at hx HDK
          obtain ⟨⟨bk, o, hpK, hSb, hcells⟩, hxin⟩ := HQ.out k x hx
          have hkeep : ∀ j, j < B → wr.heap[j]? = w.heap[j]? := fun j hj => (HGR.out.1.block j (by have := HB.out.size; omega) (fun e => by
            have e2 : (Value.slice A n c).ownBlock = some j := e
            have := (HK.out.base e2).1
            omega)).trans (HB.out.block j (by omega))
          have hbk : ∀ j v, (tmC (qq k) x)[j]? = some v → wr.cell? ⟨bk, o + k * 8 + j, none⟩ = some v := fun j v hv => (cell_same (hkeep bk hSb)).trans (hcells j v hv)
          have d0 := hbk 0 _ rfl
          have d1 := hbk 1 _ rfl
          have d2 := hbk 2 _ rfl
          have d3 := hbk 3 _ rfl
          have d4 := hbk 4 _ rfl
          have d5 := hbk 5 _ rfl
          have d6 := hbk 6 _ rfl
          have d7 := hbk 7 _ rfl
          rw [Nat.add_zero] at d0
          have HXIN := Aside0.mk (show TmIn wr B (qq k) x from TmS.same hxin fun j hj _ => hkeep j hj)
          have HPK := Aside0.mk hpK
          have HEX := Aside0.mk (show endD t d (⟨k, hkn⟩ :: (List.finRange (nK t)).drop (k + 1)) = endsP x (d + moreZ t k) ++ endD t d ((List.finRange (nK t)).drop (k + 1)) by unfold endD; rw [List.map_cons, List.flatten_cons, hxe])
          have HSX := Aside0.mk (show sumD t (⟨k, hkn⟩ :: (List.finRange (nK t)).drop (k + 1)) = sizeT x + sumD t ((List.finRange (nK t)).drop (k + 1)) by unfold sumD; rw [List.map_cons, List.sum_cons, hxe])
          rw [hpK]
          clear hcells hx hxin hbk hpK hxe hkeep
          go_upto_region 6 with (fail)
          obtain ⟨W5, hW5⟩ : ∃ W5, W5 = wr.alloc (tmO (qq k) x) := ⟨_, rfl⟩
          have hb5 : Below wr.heap.size wr W5 := by rw [hW5]; exact below_alloc (Below.refl _ _) _
          have hX5 : W5.heap[wr.heap.size]? = some (tmO (qq k) x) := by rw [hW5]; exact blk_new _ _
          have hT5 : W5.heap[w.heap.size]? = some (tmO p t) := (hb5.block _ (blk_lt HXR.out)).trans HXR.out
          have hzW := HB.out.size
          have hzT := blk_lt HXR.out
          have hVT : u2.ownBlock ≠ some w.heap.size := fun e => (HGR.out.2 _ e).elim (fun e2 => by have := (HK.out.base e2).2; omega) (fun h => by have := blk_lt HX0.out; omega)
          have hVB : u2.ownBlock ≠ some wr.heap.size := fun e => by have := (HKR.out.base e).2; omega
          have hm := moreZ_in t k
          have hz5 := hb5.size
          unfold tmO at hW5
          rw [← hW5]
          clear hW5
          refine en_region W5 wr.heap.size w.heap.size lo B (qq k) x p t k d u2 ys (ys ++ endsP x (d + moreZ t k)) hX5 hT5 (TmIn.stay HXIN.out (hb5.mono (by omega))) (HKR.out.later hb5) hBl (by omega) hVB hVT (by have := HD.out; omega)
            (fun w' hz hin hk => IH.out x (by have := HXL.out; have := HNN.out; omega) (qq k) B lo (d + moreZ t k) u2 ys w' hin hBl (by omega) (by omega) (by have := HDK.out; have := HD.out; omega) (by rw [HDF.out, HSX.out] at hys; omega) hk) ?_
          intro w6 V6 u43 O9 hC hF hO
          obtain ⟨hE, hG⟩ := en_grew hC hF hO
          have HE6 := Aside0.mk hE
          have HG6 := Aside0.mk (Grew.trans HGR.out (Grew.trans ⟨Chg.of_below hb5, fun _ h => .inl h⟩ hG))
          have HX6 := Aside0.mk ((hG.1.block _ (blk_lt hT5) hVT).trans hT5)
          have HEQ2 := Aside0.mk (show (ys ++ endsP x (d + moreZ t k)) ++ endD t d ((List.finRange (nK t)).drop (k + 1)) = xs ++ endsP t d by rw [List.append_assoc, ← HEX.out, ← HDF.out]; exact HEQ.out)
          have HLN := Aside0.mk (ends_len _ x (Nat.lt_succ_self _) (d + moreZ t k))
          clear hC hF hO hE hG hb5 hX5 hT5 hVT hVB hm
          go_wp2
          go_roundw
          case rel => exact ⟨k + 1, ys ++ endsP x (d + moreZ t k), by go_num, by omega, by rw [HDF.out, HSX.out] at hys; rw [List.length_append]; have := HLN.out; omega, HEQ2, HE6, HG6, HX6⟩
          case measure => (simp [intOf]; try omega)
        · obtain rfl : k = m := by omega
          have hlt' : decide ((k : Int) < k) = false := by simp
          have HZ := Aside0.mk (show ys = xs ++ endsP t d by
            have h := HEQ.out
            rw [List.drop_of_length_le (by rw [List.length_finRange, HNK.out]; exact Nat.le_refl _)] at h
            rw [← h]
            show ys = ys ++ []
            rw [List.append_nil])
          go_wp2
          go_ret
          exact ⟨u2, rfl, by rw [← HZ.out]; exact HKR.out, Grew.trans (w1 := W) ⟨Chg.of_below HB.out, fun _ h => .inl h⟩ HGR.out⟩
end Go.Proofs.Ytdboloabpjmgaaa

/-! FoMt -/
namespace Go.Proofs.Ytdboloabpjmgaaa
open Go.RowKit Go.Shelf Go.Proofs.YtdboloabpjmgaaaW.PrintWords Go.RegionInvYtdboloabpjmgaaa
attribute [local go_sem] Oper.semAt_some

abbrev vfMt (g1 : Nat) : Value := .func (.func 81) #[] #[.pointer (some ⟨g1, 0, none⟩)]
abbrev foWMt (w : World) (p : Pl) (t : Tm) (d b : Int) (g1 : Nat) : World :=
  ((((w.alloc (tmO p t)).alloc (.cells #[.int .i64 d] 3 (0, 0))).alloc (.cells #[.int .i64 b] 3 (0, 0))).alloc (.cells #[vfMt g1] 66 (0, 0))).alloc (.cells #[.bool false] 4 (0, 0))
set_option maxRecDepth 100000 in
set_option maxHeartbeats 16000000 in
theorem fold_Mt {σ : Type} (F : Tm → Int → Int → σ → Bool × σ) (Rep : σ → World → Prop) (Inv : σ → Prop) (P : Tm → Int → Prop) (G : Nat → Prop) (B g0 : Nat) (g1 : Nat)
    (hG : ∀ k, G k → B ≤ k ∧ k < g0) (hBg : B ≤ g0) (hRep : ∀ (s : σ) (W W' : World), Rep s W → (∀ k, G k → W'.heap[k]? = W.heap[k]?) → Rep s W')
    (hvis : ∀ (t : Tm) (p : Pl) (d b : Int) (s : σ) (w : World), P t d → 0 ≤ b → b ≤ d → Inv s → g0 ≤ w.heap.size → TmIn w B p t → Rep s w → Calls Try.prog 81 #[tmV p t, .int .i64 d, .int .i64 b, .pointer (some ⟨g1, 0, none⟩)] w (FoldPost Rep G w (F t d b s)))
    (hF : ∀ (t : Tm) (d b : Int) (s : σ), P t d → Inv s → (F t d b s).1 = true → Inv (F t d b s).2 ∧ ∀ i : Fin (nK t), P (kidF t i) (d + 1)) (hP : ∀ t d, P t d → 0 ≤ d ∧ d ≤ 100000)
    (N : Nat) : ∀ (t : Tm), SizeOf.sizeOf t < N → ∀ (p : Pl) (d b : Int) (s : σ) (w : World), P t d → 0 ≤ b → b ≤ d → Inv s → g0 ≤ w.heap.size → TmIn w B p t → Rep s w →
    Calls Try.prog 58 #[tmV p t, .int .i64 d, .int .i64 b, vfMt g1] w (FoldPost Rep G w (foldP F t d b s)) := by
  induction N with
  | zero => intro t h; omega
  | succ N ih =>
    intro t hN p d b s w hPd hb0 hbd hI hg hin hR
    have IH := Aside0.mk ih
    have HG := Aside0.mk hG
    have HRP := Aside0.mk hRep
    have HVS := Aside0.mk hvis
    have HF := Aside0.mk hF
    have HP := Aside0.mk hPd
    have HI := Aside0.mk hI
    have HIN := Aside0.mk hin
    have HR := Aside0.mk hR
    have HNN := Aside0.mk hN
    have hd := hP t d hPd
    have HPP := Aside0.mk hP
    have hz0 : (foWMt w p t d b g1).heap.size = w.heap.size + 5 := by simp
    have hb0w : Below w.heap.size w (foWMt w p t d b g1) := below_alloc (below_alloc (below_alloc (below_alloc (below_alloc (Below.refl _ _) _) _) _) _) _
    have HZ0 := Aside0.mk hz0
    have HB0 := Aside0.mk hb0w
    have HX0 := Aside0.mk (show (foWMt w p t d b g1).heap[w.heap.size]? = some (tmO p t) from blk_alloc (blk_alloc (blk_alloc (blk_alloc (blk_new _ _) _) _) _) _)
    have HX1 := Aside0.mk (show (foWMt w p t d b g1).heap[w.heap.size + 1]? = some (.cells #[.int .i64 d] 3 (0, 0)) by have := blk_new (w.alloc (tmO p t)) (.cells #[.int .i64 d] 3 (0, 0)); simp only [World.size_alloc] at this; exact blk_alloc (blk_alloc (blk_alloc this _) _) _)
    have HX2 := Aside0.mk (show (foWMt w p t d b g1).heap[w.heap.size + 1 + 1]? = some (.cells #[.int .i64 b] 3 (0, 0)) by have := blk_new ((w.alloc (tmO p t)).alloc (.cells #[.int .i64 d] 3 (0, 0))) (.cells #[.int .i64 b] 3 (0, 0)); simp only [World.size_alloc] at this; exact blk_alloc (blk_alloc this _) _)
    have HX3 := Aside0.mk (show (foWMt w p t d b g1).heap[w.heap.size + 1 + 1 + 1]? = some (.cells #[vfMt g1] 66 (0, 0)) by have := blk_new (((w.alloc (tmO p t)).alloc (.cells #[.int .i64 d] 3 (0, 0))).alloc (.cells #[.int .i64 b] 3 (0, 0))) (.cells #[vfMt g1] 66 (0, 0)); simp only [World.size_alloc] at this; exact blk_alloc this _)
    have HX4 := Aside0.mk (show (foWMt w p t d b g1).heap[w.heap.size + 1 + 1 + 1 + 1]? = some (.cells #[.bool false] 4 (0, 0)) by have := blk_new ((((w.alloc (tmO p t)).alloc (.cells #[.int .i64 d] 3 (0, 0))).alloc (.cells #[.int .i64 b] 3 (0, 0))).alloc (.cells #[vfMt g1] 66 (0, 0))) (.cells #[.bool false] 4 (0, 0)); simp only [World.size_alloc] at this; exact this)
    have hR0 : Rep s (foWMt w p t d b g1) := hRep _ _ _ hR fun k hk => hb0w.block k (Nat.lt_of_lt_of_le (hG k hk).2 hg)
    have HR0 := Aside0.mk hR0
    have HIN0 := Aside0.mk (hin.stay (hb0w.mono (Nat.le_trans hBg hg)))
    have HGG := Aside0.mk (show ∀ k, G k → k < w.heap.size from fun k hk => Nat.lt_of_lt_of_le (hG k hk).2 hg)
    clear ih hG hRep hvis hF hPd hI hin hR hN hP hz0 hb0w hR0
    unfold tmV vfMt
    refine (callsIn_wide (n := 5)).1 ?_
    refine callsIn_of_wp_marks Try.func58 rfl trivial ?_ rfl
    simp only [Try.ntmps58, List.size_toArray, List.length_cons, List.length_nil, Nat.reduceAdd, Nat.reduceSub, Array.replicate_succ, Array.replicate_zero, List.push_toArray, List.append_toArray, List.nil_append, List.cons_append]
    obtain ⟨e1, s1, hes⟩ : ∃ x y, F t d b s = (x, y) := ⟨_, _, rfl⟩
    have HV := Aside0.mk hes
    cases e1 with
    | false =>
      have HE := Aside0.mk (show foldP F t d b s = (false, s1) by rw [foldP_stop (by rw [hes]), hes])
      clear hes
      gi_wp2
      refine ⟨trivial, ?_⟩
      gi_at_call 81
      refine (callsIn_wide.2 (HVS.out t p d b s _ HP.out hb0 hbd HI.out (Nat.le_trans hg HB0.out.size) HIN0.out HR0.out)).mono ?_
      rintro e w1 ⟨rfl, hR1, hC1⟩
      rw [HV.out] at hR1 ⊢
      have HR1 := Aside0.mk hR1
      have HC1 := Aside0.mk hC1
      have hx4 := (hC1.block _ (by rw [HZ0.out]; omega) (fun h => by have := HGG.out _ h; omega)).trans HX4.out
      have HX41 := Aside0.mk hx4
      have c4 : w1.cell? ⟨w.heap.size + 1 + 1 + 1 + 1, 0, none⟩ = some (.bool false) := by (rw [cell_of_row _ _ _ _ _ _ hx4]; rfl)
      have f4 := blk_frozen hx4 0
      clear hR1 hC1 hx4
      gi_wp2
      have hc5 : (w1.setCell ⟨w.heap.size + 1 + 1 + 1 + 1, 0, none⟩ (.bool false)).cell? ⟨w.heap.size + 1 + 1 + 1 + 1, 0, none⟩ = some (.bool false) := World.cell?_setCell_same' _ _ _ (by rw [c4]; rfl)
      refine ⟨.bool false, ?_, ?_⟩
      · simp [results, Try.f58, go_sem, hc5]
      · rw [HE.out]
        refine ⟨rfl, HRP.out _ _ _ HR1.out (fun k hk => (chg_set w1 (w.heap.size + 1 + 1 + 1 + 1) 0 (.bool false)).block k (by have := HC1.out.size; have := HZ0.out; have := HGG.out k hk; omega) (fun e => by have := HGG.out k hk; omega)), ?_⟩
        exact chg_cut (Chg.of_below HB0.out) (HC1.out.mono fun k h => .inl h) ((chg_set w1 _ 0 _).mono fun k h => .inr (by have h : k = w.heap.size + 1 + 1 + 1 + 1 := h; omega))
    | true =>
      have h2 := HF.out t d b s HP.out HI.out (by rw [hes])
      rw [hes] at h2
      have HI1 := Aside0.mk h2.1
      have HPK := Aside0.mk h2.2
      have HE := Aside0.mk (show foldP F t d b s = runL (fun (i : Fin (nK t)) s => foldP F (kidF t i) (d + 1) (b + moreZ t i) s) (List.finRange (nK t)) s1 by rw [foldP_go (by rw [hes]), hes])
      clear hes h2
      gi_wp2
      refine ⟨trivial, ?_⟩
      gi_at_call 81
      refine (callsIn_wide.2 (HVS.out t p d b s _ HP.out hb0 hbd HI.out (Nat.le_trans hg HB0.out.size) HIN0.out HR0.out)).mono ?_
      rintro e w1 ⟨rfl, hR1, hC1⟩
      rw [HV.out] at hR1 ⊢
      have HR1 := Aside0.mk hR1
      have HC1 := Aside0.mk hC1
      have hgn : ∀ j, w.heap.size ≤ j → ¬ G j := fun j hj h => by have := HGG.out j h; omega
      have hX0 := (hC1.block w.heap.size (by rw [HZ0.out]; omega) (hgn _ (by omega))).trans HX0.out
      have hX1 := (hC1.block _ (by rw [HZ0.out]; omega) (hgn _ (by omega))).trans HX1.out
      have hX2 := (hC1.block _ (by rw [HZ0.out]; omega) (hgn _ (by omega))).trans HX2.out
      have hX3 := (hC1.block _ (by rw [HZ0.out]; omega) (hgn _ (by omega))).trans HX3.out
      have hX4 := (hC1.block _ (by rw [HZ0.out]; omega) (hgn _ (by omega))).trans HX4.out
      have hz1 := hC1.size
      rw [HZ0.out] at hz1
      have HX01 := Aside0.mk hX0
      have HX11 := Aside0.mk hX1
      have HX21 := Aside0.mk hX2
      have HX31 := Aside0.mk hX3
      have HX41 := Aside0.mk hX4
      have HGN := Aside0.mk hgn
      have HIN1 := Aside0.mk (HIN0.out.same (w' := w1) fun k hk hz => hC1.block k hz (fun h => by have := (HG.out k h).1; omega))
      obtain ⟨c0, c1, c2, c3, c4, c5, c6, c7⟩ := row8 hX0
      clear hR1 hC1 hX0 hX1 hX2 hX3 hX4 hgn
      gi_wp2
      refine ⟨trivial, ?_⟩
      gi_at_call 96
      refine (callsIn_wide.2 (tkids_calls p t _)).mono ?_
      rintro e w2 ⟨rfl, hw2⟩
      have HZX2 := Aside0.mk (show w2.heap[w1.heap.size]? = some (tmO p t) by rw [hw2]; exact blk_new _ _)
      have HB2 := Aside0.mk (show Below w1.heap.size w1 w2 by rw [hw2]; exact below_alloc (Below.refl _ _) _)
      clear hw2 c0 c1 c2 c3 c4 c5 c6 c7
      gi_wp2
      obtain ⟨q, hq⟩ := (HIN1.out.later HB2.out).kid
      have HQ := Aside0.mk hq
      have hlen := HIN1.out.len
      have hz2 := HB2.out.size
      have hzz := blk_lt HZX2.out
      have hgl : ∀ k, G k → k < w2.heap.size := fun k hk => by have := HGG.out k hk; omega
      have HGL := Aside0.mk hgl
      have HINV := Aside0.mk (foldP_inv HF.out)
      clear hq
      refine wpIn_rangeFunc_ownH (F := Fence.wide) rfl (by decide) (gf := 117) (lb := #[.pointer (some ⟨w1.heap.size, 0, none⟩)]) rfl trivial (enters_of Try.func117 (by kernel_rfl) rfl)
        (kids_stops (5 - 1) (by decide) p t q w1.heap.size w2.heap.size G (fun k => k < B) w2 HZX2.out hzz (Nat.le_refl _) (HGN.out _ (by omega)) (fun k hk => ⟨by omega, fun h => by have := (HG.out k h).1; omega⟩) (by omega) (fun i x hx => (HQ.out i x hx).1))
        kpG_trans (kpG_put (Nat.le_refl _)) (Below.refl _ _) (fun _ => rfl)
        (fun pre W => ((runL (fun (i : Fin (nK t)) s => foldP F (kidF t i) (d + 1) (b + moreZ t i) s) pre s1).1 = true ∧ Inv (runL (fun (i : Fin (nK t)) s => foldP F (kidF t i) (d + 1) (b + moreZ t i) s) pre s1).2) ∧ Rep (runL (fun (i : Fin (nK t)) s => foldP F (kidF t i) (d + 1) (b + moreZ t i) s) pre s1).2 W ∧ Chg G w2 W)
        (fun c pre W => (c = .ret ∧ (runL (fun (i : Fin (nK t)) s => foldP F (kidF t i) (d + 1) (b + moreZ t i) s) pre s1).1 = false) ∧ (Rep (runL (fun (i : Fin (nK t)) s => foldP F (kidF t i) (d + 1) (b + moreZ t i) s) pre s1).2 W ∧ W.heap[w.heap.size + 1 + 1 + 1 + 1]? = some (.cells #[.bool false] 4 (0, 0))) ∧ Chg (fun k => G k ∨ k = w.heap.size + 1 + 1 + 1 + 1) w2 W)
        (fun pre X Y row hs hg hr => ⟨hs.1, HRP.out _ X Y hs.2.1 (fun k hk => hg.block k (Nat.lt_of_lt_of_le (HGL.out k hk) hs.2.2.size) (fun e => by have := (hr k e.symm).1; have := HGL.out k hk; omega)), chg_grown hs.2.2 hg (fun r e => (hr r e).1)⟩)
        (fun c pre X Y row hs hg hr => ⟨hs.1, ⟨HRP.out _ X Y hs.2.1.1 (fun k hk => hg.block k (Nat.lt_of_lt_of_le (HGL.out k hk) hs.2.2.size) (fun e => by have := (hr k e.symm).1; have := HGL.out k hk; omega)), (hg.block _ (blk_lt hs.2.1.2) (fun e => by have := (hr _ e.symm).1; omega)).trans hs.2.1.2⟩, chg_grown hs.2.2 hg (fun r e => (hr r e).1)⟩)
        ⟨⟨rfl, HI1.out⟩, HRP.out _ w1 w2 HR1.out (fun k hk => HB2.out.block k (by have := HGG.out k hk; omega)), Chg.refl _ _⟩
        (fun x a' W => ∃ Bx, w2.heap.size ≤ Bx ∧ W.heap[Bx]? = some (tmO (q x) (kidF t x)) ∧ a' = { tmps := #[tmV p t, .int .i64 d, .int .i64 b, vfMt g1, .pointer (some ⟨w.heap.size, 0, none⟩), .pointer (some ⟨w.heap.size + 1, 0, none⟩), .pointer (some ⟨w.heap.size + 1 + 1, 0, none⟩), .pointer (some ⟨w.heap.size + 1 + 1 + 1, 0, none⟩), .pointer (some ⟨w.heap.size + 1 + 1 + 1 + 1, 0, none⟩), .int .i64 (moreZ t x), .pointer (some ⟨Bx, 0, none⟩), vfMt g1, tmV p t, .int .i64 d, .int .i64 b, .bool true, .bool false, tmV p t, .func (.func 117) #[] #[.pointer (some ⟨w1.heap.size, 0, none⟩)], .int .i64 (moreZ t x), tmV (q x) (kidF t x), undef, undef, undef, undef, undef, undef, undef, undef, undef], defers := [] })
        (fun x a' _ X Y row hs hg hr => by obtain ⟨Bx, h1, h2, h3⟩ := hs; exact ⟨Bx, h1, (hg.block _ (blk_lt h2) (fun e => by obtain ⟨o, ho, hc⟩ := (hr _ e.symm).2; rw [h2] at ho; cases ho; cases hc)).trans h2, h3⟩)
        ?assign ?body ?done ?stop
      case assign =>
        rintro l pre x W K ⟨hA, hRW, hCW⟩ hK
        dsimp only [encK, tmV]
        have hAA := Aside0.mk hA
        have hb1 : Below W.heap.size W (W.alloc (tmO (q x) (kidF t x))) := below_alloc (Below.refl _ _) _
        have HKK := Aside0.mk (hK { tmps := #[tmV p t, .int .i64 d, .int .i64 b, vfMt g1, .pointer (some ⟨w.heap.size, 0, none⟩), .pointer (some ⟨w.heap.size + 1, 0, none⟩), .pointer (some ⟨w.heap.size + 1 + 1, 0, none⟩), .pointer (some ⟨w.heap.size + 1 + 1 + 1, 0, none⟩), .pointer (some ⟨w.heap.size + 1 + 1 + 1 + 1, 0, none⟩), .int .i64 (moreZ t x), .pointer (some ⟨W.heap.size, 0, none⟩), vfMt g1, tmV p t, .int .i64 d, .int .i64 b, .bool true, .bool false, tmV p t, .func (.func 117) #[] #[.pointer (some ⟨w1.heap.size, 0, none⟩)], .int .i64 (moreZ t x), tmV (q x) (kidF t x), undef, undef, undef, undef, undef, undef, undef, undef, undef], defers := [] } _ (KeepsFrom.of_chg (Chg.of_below (S := fun _ => False) hb1) (fun k h => h.elim)) ⟨hb1.size, fun k hk _ => hb1.block k (by have := hCW.size; omega)⟩ ⟨hA, HRP.out _ _ _ hRW (fun k hk => hb1.block k (by have := HGL.out k hk; have := hCW.size; omega)), chg_trans hCW (Chg.of_below hb1)⟩ ⟨W.heap.size, hCW.size, blk_new _ _, rfl⟩)
        clear hK hA hAA hb1
        gi_wp2
        exact HKK.out
      case body =>
        rintro l pre x a' W hl ⟨r, hr⟩ ⟨⟨hA, hIv⟩, hRW, hCW⟩ ⟨Bx, hBx, bX, rfl⟩ hlt
        obtain ⟨sp, hsp⟩ : ∃ sp, runL (fun (i : Fin (nK t)) s => foldP F (kidF t i) (d + 1) (b + moreZ t i) s) pre s1 = (true, sp) := ⟨_, Prod.ext hA rfl⟩
        rw [hsp] at hIv hRW
        have HSP := Aside0.mk hsp
        obtain ⟨ev, s2, hev⟩ : ∃ ev s2, foldP F (kidF t x) (d + 1) (b + moreZ t x) sp = (ev, s2) := ⟨_, _, rfl⟩
        have HEV := Aside0.mk hev
        have HSN := Aside0.mk (show runL (fun (i : Fin (nK t)) s => foldP F (kidF t i) (d + 1) (b + moreZ t i) s) (pre ++ [x]) s1 = (ev, s2) by rw [runL_snoc, hsp]; exact hev)
        have HIV2 := Aside0.mk (show ev = true → Inv s2 from fun h => by have := HINV.out _ (kidF t x) (Nat.lt_succ_self _) (d + 1) (b + moreZ t x) sp (HPK.out x) hIv (by rw [hev]; exact h); rwa [hev] at this)
        have HIV := Aside0.mk hIv
        have HRW := Aside0.mk hRW
        have HCW := Aside0.mk hCW
        have HKD := Aside0.mk ((HQ.out x _ (kidF_get t x)).2.same (w' := W) fun k hk hz => hCW.block k hz (fun h => by have := (HG.out k h).1; omega))
        have hszW := hCW.size
        have st : ∀ j, w.heap.size ≤ j → j < w1.heap.size → W.heap[j]? = w1.heap[j]? := fun j h1 h2 => (hCW.block j (by omega) (HGN.out j h1)).trans (HB2.out.block j h2)
        have c1 : W.cell? ⟨w.heap.size + 1, 0, none⟩ = some (.int .i64 d) := by rw [cell_of_row _ _ _ _ _ _ ((st _ (by omega) (by omega)).trans HX11.out)]; rfl
        have c2 : W.cell? ⟨w.heap.size + 1 + 1, 0, none⟩ = some (.int .i64 b) := by rw [cell_of_row _ _ _ _ _ _ ((st _ (by omega) (by omega)).trans HX21.out)]; rfl
        have c3 : W.cell? ⟨w.heap.size + 1 + 1 + 1, 0, none⟩ = some (vfMt g1) := by rw [cell_of_row _ _ _ _ _ _ ((st _ (by omega) (by omega)).trans HX31.out)]; rfl
        have X4 := Aside0.mk ((st _ (by omega) (by omega)).trans HX41.out)
        obtain ⟨b0, b1, b2, b3, b4, b5, b6, b7⟩ := row8 bX
        obtain ⟨hd0, hd1⟩ := hd
        have hmz := moreZ_in t x
        obtain ⟨hm0, hm1⟩ := hmz
        have HMZ := Aside0.mk (show b + moreZ t x ≤ d + 1 by omega)
        clear hA hIv hRW hCW hsp hev st bX hr hlt
        cases ev with
        | true =>
          gi_wp2
          refine ⟨trivial, ?_⟩
          gi_at_call 58
          refine (CallsIn.inRound l (callsIn_wide.2 (IH.out (kidF t x) (by have := kidF_lt t x; have := HNN.out; omega) (q x) (d + 1) (b + moreZ t x) sp W (HPK.out x) (by omega) HMZ.out HIV.out (by omega) HKD.out HRW.out))).mono ?_
          rintro e w3 ⟨rfl, hR3, hC3⟩
          rw [HEV.out] at hR3 ⊢
          have HR3 := Aside0.mk hR3
          have HC3 := Aside0.mk hC3
          clear hR3 hC3
          gi_wp2
          refine ⟨KeepsFrom.of_chg HC3.out HGL.out, ⟨HC3.out.size, fun k hk hg => HC3.out.block k (by omega) hg⟩, ⟨?_, ?_⟩, ?_, chg_trans HCW.out HC3.out⟩
          · rw [HSN.out]
          · rw [HSN.out]; exact HIV2.out (by simp)
          · rw [HSN.out]; exact HR3.out
        | false =>
          gi_wp2
          refine ⟨trivial, ?_⟩
          gi_at_call 58
          refine (CallsIn.inRound l (callsIn_wide.2 (IH.out (kidF t x) (by have := kidF_lt t x; have := HNN.out; omega) (q x) (d + 1) (b + moreZ t x) sp W (HPK.out x) (by omega) HMZ.out HIV.out (by omega) HKD.out HRW.out))).mono ?_
          rintro e w3 ⟨rfl, hR3, hC3⟩
          rw [HEV.out] at hR3 ⊢
          have HR3 := Aside0.mk hR3
          have HC3 := Aside0.mk hC3
          have hx4 := (hC3.block _ (by omega) (HGN.out _ (by omega))).trans X4.out
          have X43 := Aside0.mk hx4
          have c4 : w3.cell? ⟨w.heap.size + 1 + 1 + 1 + 1, 0, none⟩ = some (.bool false) := by (rw [cell_of_row _ _ _ _ _ _ hx4]; rfl)
          have f4 := blk_frozen hx4 0
          clear hR3 hC3 hx4
          gi_wp2
          have hch := chg_set w3 (w.heap.size + 1 + 1 + 1 + 1) 0 (.bool false)
          have hsz3 := HC3.out.size
          refine ⟨KeepsFrom.of_chg (S := fun k => G k ∨ k = w.heap.size + 1 + 1 + 1 + 1) (chg_trans (HC3.out.mono fun k h => .inl h) (hch.mono fun k h => .inr h)) (fun k h => h.elim (fun h => HGL.out k h) (fun h => by omega)), ⟨rfl, ?_⟩, ⟨?_, ?_⟩, ?_⟩
          · rw [HSN.out]
          · rw [HSN.out]; exact HRP.out _ _ _ HR3.out fun k hk => hch.block k (by have := HGL.out k hk; omega) (fun e => HGN.out k (by have e : k = _ := e; omega) hk)
          · exact blk_put X43.out 0 _ rfl
          · exact chg_trans (HCW.out.mono fun k h => .inl h) (chg_trans (HC3.out.mono fun k h => .inl h) (hch.mono fun k h => .inr h))
      case done =>
        rintro D ys W hD rfl ⟨⟨hA, hIv⟩, hRW, hCW⟩ hK
        obtain ⟨sp, hsp⟩ : ∃ sp, runL (fun (i : Fin (nK t)) s => foldP F (kidF t i) (d + 1) (b + moreZ t i) s) (List.finRange (nK t)) s1 = (true, sp) := ⟨_, Prod.ext hA rfl⟩
        rw [hsp] at hRW
        have HRES := Aside0.mk hsp
        have hszW := hCW.size
        have hx4 := (hCW.block _ (by omega) (HGN.out _ (by omega))).trans ((HB2.out.block _ (by omega)).trans HX41.out)
        have X4 := Aside0.mk hx4
        have HRW := Aside0.mk hRW
        have HCW := Aside0.mk hCW
        have HKD := Aside0.mk hK
        have c4 : W.cell? ⟨w.heap.size + 1 + 1 + 1 + 1, 0, none⟩ = some (.bool false) := by (rw [cell_of_row _ _ _ _ _ _ hx4]; rfl)
        have f4 := blk_frozen hx4 0
        clear hA hIv hsp hRW hCW hx4 hK
        gi_wp2
        have hch := chg_set W (w.heap.size + 1 + 1 + 1 + 1) 0 (.bool true)
        obtain ⟨WW, hWW⟩ : ∃ WW, WW = W.setCell ⟨w.heap.size + 1 + 1 + 1 + 1, 0, none⟩ (.bool true) := ⟨_, rfl⟩
        have hx5 : WW.heap[w.heap.size + 1 + 1 + 1 + 1]? = some (.cells #[.bool true] 4 (0, 0)) := by rw [hWW]; exact blk_put X4.out 0 _ rfl
        rw [← hWW] at hch ⊢
        clear hWW
        have hszV := hch.size
        have hKW : WW.heap[D]? = some (.deferred (some [])) := (hch.block D (blk_lt HKD.out) (by omega)).trans HKD.out
        have hRWW : Rep sp WW := HRP.out _ _ _ HRW.out fun k hk => hch.block k (by have := HGL.out k hk; omega) (fun e => HGN.out k (by have e : k = _ := e; omega) hk)
        have hCWW : Chg (fun k => G k ∨ w.heap.size ≤ k) w2 WW := chg_trans (HCW.out.mono fun k h => .inl h) (hch.mono fun k h => .inr (by have h : k = _ := h; omega))
        have hgD : ∀ k, G k → k ≠ D := fun k hk e => by have := HGL.out k hk; omega
        have hp := chg_put WW D (.deferred none)
        have hc5 : (WW.putObj D (.deferred none)).cell? ⟨w.heap.size + 1 + 1 + 1 + 1, 0, none⟩ = some (.bool true) := by
          rw [cell_of_row _ _ _ _ _ _ ((hp.block _ (blk_lt hx5) (by omega)).trans hx5)]; rfl
        refine ⟨by simp, .inl ⟨_, _, rfl, run_takeDeferred hKW, ?_⟩⟩
        refine ⟨.bool true, ?_, ?_⟩
        · simp [results, Try.f58, go_sem, hc5]
        · rw [HE.out, HRES.out]
          refine ⟨rfl, HRP.out _ _ _ hRWW (fun k hk => hp.block k (by have := HGL.out k hk; omega) (hgD k hk)), ?_⟩
          refine chg_cut (Chg.of_below HB0.out) (HC1.out.mono fun k h => .inl h) (chg_trans (chg_trans (Chg.of_below HB2.out) hCWW) (hp.mono fun k h => .inr (by have h : k = D := h; omega)))
      case stop =>
        rintro D c pre WW hD hSp ⟨⟨rfl, hA⟩, ⟨hRWW, hx5⟩, hCW⟩ hKW
        obtain ⟨sp, hsp⟩ : ∃ sp, runL (fun (i : Fin (nK t)) s => foldP F (kidF t i) (d + 1) (b + moreZ t i) s) pre s1 = (false, sp) := ⟨_, Prod.ext hA rfl⟩
        have HRES := Aside0.mk (show runL (fun (i : Fin (nK t)) s => foldP F (kidF t i) (d + 1) (b + moreZ t i) s) (List.finRange (nK t)) s1 = (false, sp) by rw [runL_false _ hSp _ hA, hsp])
        rw [hsp] at hRWW
        have hszV := hCW.size
        have hCWW : Chg (fun k => G k ∨ w.heap.size ≤ k) w2 WW := hCW.mono fun k h => h.elim .inl fun h => .inr (by omega)
        clear hA hsp hSp hCW
        gi_wp2
        have hgD : ∀ k, G k → k ≠ D := fun k hk e => by have := HGL.out k hk; omega
        have hp := chg_put WW D (.deferred none)
        have hc5 : (WW.putObj D (.deferred none)).cell? ⟨w.heap.size + 1 + 1 + 1 + 1, 0, none⟩ = some (.bool false) := by
          rw [cell_of_row _ _ _ _ _ _ ((hp.block _ (blk_lt hx5) (by omega)).trans hx5)]; rfl
        refine ⟨by simp, .inl ⟨_, _, rfl, run_takeDeferred hKW, ?_⟩⟩
        refine ⟨.bool false, ?_, ?_⟩
        · simp [results, Try.f58, go_sem, hc5]
        · rw [HE.out, HRES.out]
          refine ⟨rfl, HRP.out _ _ _ hRWW (fun k hk => hp.block k (by have := HGL.out k hk; omega) (hgD k hk)), ?_⟩
          refine chg_cut (Chg.of_below HB0.out) (HC1.out.mono fun k h => .inl h) (chg_trans (chg_trans (Chg.of_below HB2.out) hCWW) (hp.mono fun k h => .inr (by have h : k = D := h; omega)))
end Go.Proofs.Ytdboloabpjmgaaa

/-! FoLo -/
namespace Go.Proofs.Ytdboloabpjmgaaa
open Go.RowKit Go.Shelf Go.Proofs.YtdboloabpjmgaaaW.PrintWords Go.RegionInvYtdboloabpjmgaaa
attribute [local go_sem] Oper.semAt_some

abbrev vfLo (g1 : Nat) : Value := .func (.func 78) #[] #[.pointer (some ⟨g1, 0, none⟩)]
abbrev foWLo (w : World) (p : Pl) (t : Tm) (d b : Int) (g1 : Nat) : World :=
  ((((w.alloc (tmO p t)).alloc (.cells #[.int .i64 d] 3 (0, 0))).alloc (.cells #[.int .i64 b] 3 (0, 0))).alloc (.cells #[vfLo g1] 66 (0, 0))).alloc (.cells #[.bool false] 4 (0, 0))
set_option maxRecDepth 100000 in
set_option maxHeartbeats 16000000 in
theorem fold_Lo {σ : Type} (F : Tm → Int → Int → σ → Bool × σ) (Rep : σ → World → Prop) (Inv : σ → Prop) (P : Tm → Int → Prop) (G : Nat → Prop) (B g0 : Nat) (g1 : Nat)
    (hG : ∀ k, G k → B ≤ k ∧ k < g0) (hBg : B ≤ g0) (hRep : ∀ (s : σ) (W W' : World), Rep s W → (∀ k, G k → W'.heap[k]? = W.heap[k]?) → Rep s W')
    (hvis : ∀ (t : Tm) (p : Pl) (d b : Int) (s : σ) (w : World), P t d → 0 ≤ b → b ≤ d → Inv s → g0 ≤ w.heap.size → TmIn w B p t → Rep s w → Calls Try.prog 78 #[tmV p t, .int .i64 d, .int .i64 b, .pointer (some ⟨g1, 0, none⟩)] w (FoldPost Rep G w (F t d b s)))
    (hF : ∀ (t : Tm) (d b : Int) (s : σ), P t d → Inv s → (F t d b s).1 = true → Inv (F t d b s).2 ∧ ∀ i : Fin (nK t), P (kidF t i) (d + 1)) (hP : ∀ t d, P t d → 0 ≤ d ∧ d ≤ 100000)
    (N : Nat) : ∀ (t : Tm), SizeOf.sizeOf t < N → ∀ (p : Pl) (d b : Int) (s : σ) (w : World), P t d → 0 ≤ b → b ≤ d → Inv s → g0 ≤ w.heap.size → TmIn w B p t → Rep s w →
    Calls Try.prog 58 #[tmV p t, .int .i64 d, .int .i64 b, vfLo g1] w (FoldPost Rep G w (foldP F t d b s)) := by
  induction N with
  | zero => intro t h; omega
  | succ N ih =>
    intro t hN p d b s w hPd hb0 hbd hI hg hin hR
    have IH := Aside0.mk ih
    have HG := Aside0.mk hG
    have HRP := Aside0.mk hRep
    have HVS := Aside0.mk hvis
    have HF := Aside0.mk hF
    have HP := Aside0.mk hPd
    have HI := Aside0.mk hI
    have HIN := Aside0.mk hin
    have HR := Aside0.mk hR
    have HNN := Aside0.mk hN
    have hd := hP t d hPd
    have HPP := Aside0.mk hP
    have hz0 : (foWLo w p t d b g1).heap.size = w.heap.size + 5 := by simp
    have hb0w : Below w.heap.size w (foWLo w p t d b g1) := below_alloc (below_alloc (below_alloc (below_alloc (below_alloc (Below.refl _ _) _) _) _) _) _
    have HZ0 := Aside0.mk hz0
    have HB0 := Aside0.mk hb0w
    have HX0 := Aside0.mk (show (foWLo w p t d b g1).heap[w.heap.size]? = some (tmO p t) from blk_alloc (blk_alloc (blk_alloc (blk_alloc (blk_new _ _) _) _) _) _)
    have HX1 := Aside0.mk (show (foWLo w p t d b g1).heap[w.heap.size + 1]? = some (.cells #[.int .i64 d] 3 (0, 0)) by have := blk_new (w.alloc (tmO p t)) (.cells #[.int .i64 d] 3 (0, 0)); simp only [World.size_alloc] at this; exact blk_alloc (blk_alloc (blk_alloc this _) _) _)
    have HX2 := Aside0.mk (show (foWLo w p t d b g1).heap[w.heap.size + 1 + 1]? = some (.cells #[.int .i64 b] 3 (0, 0)) by have := blk_new ((w.alloc (tmO p t)).alloc (.cells #[.int .i64 d] 3 (0, 0))) (.cells #[.int .i64 b] 3 (0, 0)); simp only [World.size_alloc] at this; exact blk_alloc (blk_alloc this _) _)
    have HX3 := Aside0.mk (show (foWLo w p t d b g1).heap[w.heap.size + 1 + 1 + 1]? = some (.cells #[vfLo g1] 66 (0, 0)) by have := blk_new (((w.alloc (tmO p t)).alloc (.cells #[.int .i64 d] 3 (0, 0))).alloc (.cells #[.int .i64 b] 3 (0, 0))) (.cells #[vfLo g1] 66 (0, 0)); simp only [World.size_alloc] at this; exact blk_alloc this _)
    have HX4 := Aside0.mk (show (foWLo w p t d b g1).heap[w.heap.size + 1 + 1 + 1 + 1]? = some (.cells #[.bool false] 4 (0, 0)) by have := blk_new ((((w.alloc (tmO p t)).alloc (.cells #[.int .i64 d] 3 (0, 0))).alloc (.cells #[.int .i64 b] 3 (0, 0))).alloc (.cells #[vfLo g1] 66 (0, 0))) (.cells #[.bool false] 4 (0, 0)); simp only [World.size_alloc] at this; exact this)
    have hR0 : Rep s (foWLo w p t d b g1) := hRep _ _ _ hR fun k hk => hb0w.block k (Nat.lt_of_lt_of_le (hG k hk).2 hg)
    have HR0 := Aside0.mk hR0
    have HIN0 := Aside0.mk (hin.stay (hb0w.mono (Nat.le_trans hBg hg)))
    have HGG := Aside0.mk (show ∀ k, G k → k < w.heap.size from fun k hk => Nat.lt_of_lt_of_le (hG k hk).2 hg)
    clear ih hG hRep hvis hF hPd hI hin hR hN hP hz0 hb0w hR0
    unfold tmV vfLo
    refine (callsIn_wide (n := 5)).1 ?_
    refine callsIn_of_wp_marks Try.func58 rfl trivial ?_ rfl
    simp only [Try.ntmps58, List.size_toArray, List.length_cons, List.length_nil, Nat.reduceAdd, Nat.reduceSub, Array.replicate_succ, Array.replicate_zero, List.push_toArray, List.append_toArray, List.nil_append, List.cons_append]
    obtain ⟨e1, s1, hes⟩ : ∃ x y, F t d b s = (x, y) := ⟨_, _, rfl⟩
    have HV := Aside0.mk hes
    cases e1 with
    | false =>
      have HE := Aside0.mk (show foldP F t d b s = (false, s1) by rw [foldP_stop (by rw [hes]), hes])
      clear hes
      gi_wp2
      refine ⟨trivial, ?_⟩
      gi_at_call 78
      refine (callsIn_wide.2 (HVS.out t p d b s _ HP.out hb0 hbd HI.out (Nat.le_trans hg HB0.out.size) HIN0.out HR0.out)).mono ?_
      rintro e w1 ⟨rfl, hR1, hC1⟩
      rw [HV.out] at hR1 ⊢
      have HR1 := Aside0.mk hR1
      have HC1 := Aside0.mk hC1
      have hx4 := (hC1.block _ (by rw [HZ0.out]; omega) (fun h => by have := HGG.out _ h; omega)).trans HX4.out
      have HX41 := Aside0.mk hx4
      have c4 : w1.cell? ⟨w.heap.size + 1 + 1 + 1 + 1, 0, none⟩ = some (.bool false) := by (rw [cell_of_row _ _ _ _ _ _ hx4]; rfl)
      have f4 := blk_frozen hx4 0
      clear hR1 hC1 hx4
      gi_wp2
      have hc5 : (w1.setCell ⟨w.heap.size + 1 + 1 + 1 + 1, 0, none⟩ (.bool false)).cell? ⟨w.heap.size + 1 + 1 + 1 + 1, 0, none⟩ = some (.bool false) := World.cell?_setCell_same' _ _ _ (by rw [c4]; rfl)
      refine ⟨.bool false, ?_, ?_⟩
      · simp [results, Try.f58, go_sem, hc5]
      · rw [HE.out]
        refine ⟨rfl, HRP.out _ _ _ HR1.out (fun k hk => (chg_set w1 (w.heap.size + 1 + 1 + 1 + 1) 0 (.bool false)).block k (by have := HC1.out.size; have := HZ0.out; have := HGG.out k hk; omega) (fun e => by have := HGG.out k hk; omega)), ?_⟩
        exact chg_cut (Chg.of_below HB0.out) (HC1.out.mono fun k h => .inl h) ((chg_set w1 _ 0 _).mono fun k h => .inr (by have h : k = w.heap.size + 1 + 1 + 1 + 1 := h; omega))
    | true =>
      have h2 := HF.out t d b s HP.out HI.out (by rw [hes])
      rw [hes] at h2
      have HI1 := Aside0.mk h2.1
      have HPK := Aside0.mk h2.2
      have HE := Aside0.mk (show foldP F t d b s = runL (fun (i : Fin (nK t)) s => foldP F (kidF t i) (d + 1) (b + moreZ t i) s) (List.finRange (nK t)) s1 by rw [foldP_go (by rw [hes]), hes])
      clear hes h2
      gi_wp2
      refine ⟨trivial, ?_⟩
      gi_at_call 78
      refine (callsIn_wide.2 (HVS.out t p d b s _ HP.out hb0 hbd HI.out (Nat.le_trans hg HB0.out.size) HIN0.out HR0.out)).mono ?_
      rintro e w1 ⟨rfl, hR1, hC1⟩
      rw [HV.out] at hR1 ⊢
      have HR1 := Aside0.mk hR1
      have HC1 := Aside0.mk hC1
      have hgn : ∀ j, w.heap.size ≤ j → ¬ G j := fun j hj h => by have := HGG.out j h; omega
      have hX0 := (hC1.block w.heap.size (by rw [HZ0.out]; omega) (hgn _ (by omega))).trans HX0.out
      have hX1 := (hC1.block _ (by rw [HZ0.out]; omega) (hgn _ (by omega))).trans HX1.out
      have hX2 := (hC1.block _ (by rw [HZ0.out]; omega) (hgn _ (by omega))).trans HX2.out
      have hX3 := (hC1.block _ (by rw [HZ0.out]; omega) (hgn _ (by omega))).trans HX3.out
      have hX4 := (hC1.block _ (by rw [HZ0.out]; omega) (hgn _ (by omega))).trans HX4.out
      have hz1 := hC1.size
      rw [HZ0.out] at hz1
      have HX01 := Aside0.mk hX0
      have HX11 := Aside0.mk hX1
      have HX21 := Aside0.mk hX2
      have HX31 := Aside0.mk hX3
      have HX41 := Aside0.mk hX4
      have HGN := Aside0.mk hgn
      have HIN1 := Aside0.mk (HIN0.out.same (w' := w1) fun k hk hz => hC1.block k hz (fun h => by have := (HG.out k h).1; omega))
      obtain ⟨c0, c1, c2, c3, c4, c5, c6, c7⟩ := row8 hX0
      clear hR1 hC1 hX0 hX1 hX2 hX3 hX4 hgn
      gi_wp2
      refine ⟨trivial, ?_⟩
      gi_at_call 96
      refine (callsIn_wide.2 (tkids_calls p t _)).mono ?_
      rintro e w2 ⟨rfl, hw2⟩
      have HZX2 := Aside0.mk (show w2.heap[w1.heap.size]? = some (tmO p t) by rw [hw2]; exact blk_new _ _)
      have HB2 := Aside0.mk (show Below w1.heap.size w1 w2 by rw [hw2]; exact below_alloc (Below.refl _ _) _)
      clear hw2 c0 c1 c2 c3 c4 c5 c6 c7
      gi_wp2
      obtain ⟨q, hq⟩ := (HIN1.out.later HB2.out).kid
      have HQ := Aside0.mk hq
      have hlen := HIN1.out.len
      have hz2 := HB2.out.size
      have hzz := blk_lt HZX2.out
      have hgl : ∀ k, G k → k < w2.heap.size := fun k hk => by have := HGG.out k hk; omega
      have HGL := Aside0.mk hgl
      have HINV := Aside0.mk (foldP_inv HF.out)
      clear hq
      refine wpIn_rangeFunc_ownH (F := Fence.wide) rfl (by decide) (gf := 117) (lb := #[.pointer (some ⟨w1.heap.size, 0, none⟩)]) rfl trivial (enters_of Try.func117 (by kernel_rfl) rfl)
        (kids_stops (5 - 1) (by decide) p t q w1.heap.size w2.heap.size G (fun k => k < B) w2 HZX2.out hzz (Nat.le_refl _) (HGN.out _ (by omega)) (fun k hk => ⟨by omega, fun h => by have := (HG.out k h).1; omega⟩) (by omega) (fun i x hx => (HQ.out i x hx).1))
        kpG_trans (kpG_put (Nat.le_refl _)) (Below.refl _ _) (fun _ => rfl)
        (fun pre W => ((runL (fun (i : Fin (nK t)) s => foldP F (kidF t i) (d + 1) (b + moreZ t i) s) pre s1).1 = true ∧ Inv (runL (fun (i : Fin (nK t)) s => foldP F (kidF t i) (d + 1) (b + moreZ t i) s) pre s1).2) ∧ Rep (runL (fun (i : Fin (nK t)) s => foldP F (kidF t i) (d + 1) (b + moreZ t i) s) pre s1).2 W ∧ Chg G w2 W)
        (fun c pre W => (c = .ret ∧ (runL (fun (i : Fin (nK t)) s => foldP F (kidF t i) (d + 1) (b + moreZ t i) s) pre s1).1 = false) ∧ (Rep (runL (fun (i : Fin (nK t)) s => foldP F (kidF t i) (d + 1) (b + moreZ t i) s) pre s1).2 W ∧ W.heap[w.heap.size + 1 + 1 + 1 + 1]? = some (.cells #[.bool false] 4 (0, 0))) ∧ Chg (fun k => G k ∨ k = w.heap.size + 1 + 1 + 1 + 1) w2 W)
        (fun pre X Y row hs hg hr => ⟨hs.1, HRP.out _ X Y hs.2.1 (fun k hk => hg.block k (Nat.lt_of_lt_of_le (HGL.out k hk) hs.2.2.size) (fun e => by have := (hr k e.symm).1; have := HGL.out k hk; omega)), chg_grown hs.2.2 hg (fun r e => (hr r e).1)⟩)
        (fun c pre X Y row hs hg hr => ⟨hs.1, ⟨HRP.out _ X Y hs.2.1.1 (fun k hk => hg.block k (Nat.lt_of_lt_of_le (HGL.out k hk) hs.2.2.size) (fun e => by have := (hr k e.symm).1; have := HGL.out k hk; omega)), (hg.block _ (blk_lt hs.2.1.2) (fun e => by have := (hr _ e.symm).1; omega)).trans hs.2.1.2⟩, chg_grown hs.2.2 hg (fun r e => (hr r e).1)⟩)
        ⟨⟨rfl, HI1.out⟩, HRP.out _ w1 w2 HR1.out (fun k hk => HB2.out.block k (by have := HGG.out k hk; omega)), Chg.refl _ _⟩
        (fun x a' W => ∃ Bx, w2.heap.size ≤ Bx ∧ W.heap[Bx]? = some (tmO (q x) (kidF t x)) ∧ a' = { tmps := #[tmV p t, .int .i64 d, .int .i64 b, vfLo g1, .pointer (some ⟨w.heap.size, 0, none⟩), .pointer (some ⟨w.heap.size + 1, 0, none⟩), .pointer (some ⟨w.heap.size + 1 + 1, 0, none⟩), .pointer (some ⟨w.heap.size + 1 + 1 + 1, 0, none⟩), .pointer (some ⟨w.heap.size + 1 + 1 + 1 + 1, 0, none⟩), .int .i64 (moreZ t x), .pointer (some ⟨Bx, 0, none⟩), vfLo g1, tmV p t, .int .i64 d, .int .i64 b, .bool true, .bool false, tmV p t, .func (.func 117) #[] #[.pointer (some ⟨w1.heap.size, 0, none⟩)], .int .i64 (moreZ t x), tmV (q x) (kidF t x), undef, undef, undef, undef, undef, undef, undef, undef, undef], defers := [] })
        (fun x a' _ X Y row hs hg hr => by obtain ⟨Bx, h1, h2, h3⟩ := hs; exact ⟨Bx, h1, (hg.block _ (blk_lt h2) (fun e => by obtain ⟨o, ho, hc⟩ := (hr _ e.symm).2; rw [h2] at ho; cases ho; cases hc)).trans h2, h3⟩)
        ?assign ?body ?done ?stop
      case assign =>
        rintro l pre x W K ⟨hA, hRW, hCW⟩ hK
        dsimp only [encK, tmV]
        have hAA := Aside0.mk hA
        have hb1 : Below W.heap.size W (W.alloc (tmO (q x) (kidF t x))) := below_alloc (Below.refl _ _) _
        have HKK := Aside0.mk (hK { tmps := #[tmV p t, .int .i64 d, .int .i64 b, vfLo g1, .pointer (some ⟨w.heap.size, 0, none⟩), .pointer (some ⟨w.heap.size + 1, 0, none⟩), .pointer (some ⟨w.heap.size + 1 + 1, 0, none⟩), .pointer (some ⟨w.heap.size + 1 + 1 + 1, 0, none⟩), .pointer (some ⟨w.heap.size + 1 + 1 + 1 + 1, 0, none⟩), .int .i64 (moreZ t x), .pointer (some ⟨W.heap.size, 0, none⟩), vfLo g1, tmV p t, .int .i64 d, .int .i64 b, .bool true, .bool false, tmV p t, .func (.func 117) #[] #[.pointer (some ⟨w1.heap.size, 0, none⟩)], .int .i64 (moreZ t x), tmV (q x) (kidF t x), undef, undef, undef, undef, undef, undef, undef, undef, undef], defers := [] } _ (KeepsFrom.of_chg (Chg.of_below (S := fun _ => False) hb1) (fun k h => h.elim)) ⟨hb1.size, fun k hk _ => hb1.block k (by have := hCW.size; omega)⟩ ⟨hA, HRP.out _ _ _ hRW (fun k hk => hb1.block k (by have := HGL.out k hk; have := hCW.size; omega)), chg_trans hCW (Chg.of_below hb1)⟩ ⟨W.heap.size, hCW.size, blk_new _ _, rfl⟩)
        clear hK hA hAA hb1
        gi_wp2
        exact HKK.out
      case body =>
        rintro l pre x a' W hl ⟨r, hr⟩ ⟨⟨hA, hIv⟩, hRW, hCW⟩ ⟨Bx, hBx, bX, rfl⟩ hlt
        obtain ⟨sp, hsp⟩ : ∃ sp, runL (fun (i : Fin (nK t)) s => foldP F (kidF t i) (d + 1) (b + moreZ t i) s) pre s1 = (true, sp) := ⟨_, Prod.ext hA rfl⟩
        rw [hsp] at hIv hRW
        have HSP := Aside0.mk hsp
        obtain ⟨ev, s2, hev⟩ : ∃ ev s2, foldP F (kidF t x) (d + 1) (b + moreZ t x) sp = (ev, s2) := ⟨_, _, rfl⟩
        have HEV := Aside0.mk hev
        have HSN := Aside0.mk (show runL (fun (i : Fin (nK t)) s => foldP F (kidF t i) (d + 1) (b + moreZ t i) s) (pre ++ [x]) s1 = (ev, s2) by rw [runL_snoc, hsp]; exact hev)
        have HIV2 := Aside0.mk (show ev = true → Inv s2 from fun h => by have := HINV.out _ (kidF t x) (Nat.lt_succ_self _) (d + 1) (b + moreZ t x) sp (HPK.out x) hIv (by rw [hev]; exact h); rwa [hev] at this)
        have HIV := Aside0.mk hIv
        have HRW := Aside0.mk hRW
        have HCW := Aside0.mk hCW
        have HKD := Aside0.mk ((HQ.out x _ (kidF_get t x)).2.same (w' := W) fun k hk hz => hCW.block k hz (fun h => by have := (HG.out k h).1; omega))
        have hszW := hCW.size
        have st : ∀ j, w.heap.size ≤ j → j < w1.heap.size → W.heap[j]? = w1.heap[j]? := fun j h1 h2 => (hCW.block j (by omega) (HGN.out j h1)).trans (HB2.out.block j h2)
        have c1 : W.cell? ⟨w.heap.size + 1, 0, none⟩ = some (.int .i64 d) := by rw [cell_of_row _ _ _ _ _ _ ((st _ (by omega) (by omega)).trans HX11.out)]; rfl
        have c2 : W.cell? ⟨w.heap.size + 1 + 1, 0, none⟩ = some (.int .i64 b) := by rw [cell_of_row _ _ _ _ _ _ ((st _ (by omega) (by omega)).trans HX21.out)]; rfl
        have c3 : W.cell? ⟨w.heap.size + 1 + 1 + 1, 0, none⟩ = some (vfLo g1) := by rw [cell_of_row _ _ _ _ _ _ ((st _ (by omega) (by omega)).trans HX31.out)]; rfl
        have X4 := Aside0.mk ((st _ (by omega) (by omega)).trans HX41.out)
        obtain ⟨b0, b1, b2, b3, b4, b5, b6, b7⟩ := row8 bX
        obtain ⟨hd0, hd1⟩ := hd
        have hmz := moreZ_in t x
        obtain ⟨hm0, hm1⟩ := hmz
        have HMZ := Aside0.mk (show b + moreZ t x ≤ d + 1 by omega)
        clear hA hIv hRW hCW hsp hev st bX hr hlt
        cases ev with
        | true =>
          gi_wp2
          refine ⟨trivial, ?_⟩
          gi_at_call 58
          refine (CallsIn.inRound l (callsIn_wide.2 (IH.out (kidF t x) (by have := kidF_lt t x; have := HNN.out; omega) (q x) (d + 1) (b + moreZ t x) sp W (HPK.out x) (by omega) HMZ.out HIV.out (by omega) HKD.out HRW.out))).mono ?_
          rintro e w3 ⟨rfl, hR3, hC3⟩
          rw [HEV.out] at hR3 ⊢
          have HR3 := Aside0.mk hR3
          have HC3 := Aside0.mk hC3
          clear hR3 hC3
          gi_wp2
          refine ⟨KeepsFrom.of_chg HC3.out HGL.out, ⟨HC3.out.size, fun k hk hg => HC3.out.block k (by omega) hg⟩, ⟨?_, ?_⟩, ?_, chg_trans HCW.out HC3.out⟩
          · rw [HSN.out]
          · rw [HSN.out]; exact HIV2.out (by simp)
          · rw [HSN.out]; exact HR3.out
        | false =>
          gi_wp2
          refine ⟨trivial, ?_⟩
          gi_at_call 58
          refine (CallsIn.inRound l (callsIn_wide.2 (IH.out (kidF t x) (by have := kidF_lt t x; have := HNN.out; omega) (q x) (d + 1) (b + moreZ t x) sp W (HPK.out x) (by omega) HMZ.out HIV.out (by omega) HKD.out HRW.out))).mono ?_
          rintro e w3 ⟨rfl, hR3, hC3⟩
          rw [HEV.out] at hR3 ⊢
          have HR3 := Aside0.mk hR3
          have HC3 := Aside0.mk hC3
          have hx4 := (hC3.block _ (by omega) (HGN.out _ (by omega))).trans X4.out
          have X43 := Aside0.mk hx4
          have c4 : w3.cell? ⟨w.heap.size + 1 + 1 + 1 + 1, 0, none⟩ = some (.bool false) := by (rw [cell_of_row _ _ _ _ _ _ hx4]; rfl)
          have f4 := blk_frozen hx4 0
          clear hR3 hC3 hx4
          gi_wp2
          have hch := chg_set w3 (w.heap.size + 1 + 1 + 1 + 1) 0 (.bool false)
          have hsz3 := HC3.out.size
          refine ⟨KeepsFrom.of_chg (S := fun k => G k ∨ k = w.heap.size + 1 + 1 + 1 + 1) (chg_trans (HC3.out.mono fun k h => .inl h) (hch.mono fun k h => .inr h)) (fun k h => h.elim (fun h => HGL.out k h) (fun h => by omega)), ⟨rfl, ?_⟩, ⟨?_, ?_⟩, ?_⟩
          · rw [HSN.out]
          · rw [HSN.out]; exact HRP.out _ _ _ HR3.out fun k hk => hch.block k (by have := HGL.out k hk; omega) (fun e => HGN.out k (by have e : k = _ := e; omega) hk)
          · exact blk_put X43.out 0 _ rfl
          · exact chg_trans (HCW.out.mono fun k h => .inl h) (chg_trans (HC3.out.mono fun k h => .inl h) (hch.mono fun k h => .inr h))
      case done =>
        rintro D ys W hD rfl ⟨⟨hA, hIv⟩, hRW, hCW⟩ hK
        obtain ⟨sp, hsp⟩ : ∃ sp, runL (fun (i : Fin (nK t)) s => foldP F (kidF t i) (d + 1) (b + moreZ t i) s) (List.finRange (nK t)) s1 = (true, sp) := ⟨_, Prod.ext hA rfl⟩
        rw [hsp] at hRW
        have HRES := Aside0.mk hsp
        have hszW := hCW.size
        have hx4 := (hCW.block _ (by omega) (HGN.out _ (by omega))).trans ((HB2.out.block _ (by omega)).trans HX41.out)
        have X4 := Aside0.mk hx4
        have HRW := Aside0.mk hRW
        have HCW := Aside0.mk hCW
        have HKD := Aside0.mk hK
        have c4 : W.cell? ⟨w.heap.size + 1 + 1 + 1 + 1, 0, none⟩ = some (.bool false) := by (rw [cell_of_row _ _ _ _ _ _ hx4]; rfl)
        have f4 := blk_frozen hx4 0
        clear hA hIv hsp hRW hCW hx4 hK
        gi_wp2
        have hch := chg_set W (w.heap.size + 1 + 1 + 1 + 1) 0 (.bool true)
        obtain ⟨WW, hWW⟩ : ∃ WW, WW = W.setCell ⟨w.heap.size + 1 + 1 + 1 + 1, 0, none⟩ (.bool true) := ⟨_, rfl⟩
        have hx5 : WW.heap[w.heap.size + 1 + 1 + 1 + 1]? = some (.cells #[.bool true] 4 (0, 0)) := by rw [hWW]; exact blk_put X4.out 0 _ rfl
        rw [← hWW] at hch ⊢
        clear hWW
        have hszV := hch.size
        have hKW : WW.heap[D]? = some (.deferred (some [])) := (hch.block D (blk_lt HKD.out) (by omega)).trans HKD.out
        have hRWW : Rep sp WW := HRP.out _ _ _ HRW.out fun k hk => hch.block k (by have := HGL.out k hk; omega) (fun e => HGN.out k (by have e : k = _ := e; omega) hk)
        have hCWW : Chg (fun k => G k ∨ w.heap.size ≤ k) w2 WW := chg_trans (HCW.out.mono fun k h => .inl h) (hch.mono fun k h => .inr (by have h : k = _ := h; omega))
        have hgD : ∀ k, G k → k ≠ D := fun k hk e => by have := HGL.out k hk; omega
        have hp := chg_put WW D (.deferred none)
        have hc5 : (WW.putObj D (.deferred none)).cell? ⟨w.heap.size + 1 + 1 + 1 + 1, 0, none⟩ = some (.bool true) := by
          rw [cell_of_row _ _ _ _ _ _ ((hp.block _ (blk_lt hx5) (by omega)).trans hx5)]; rfl
        refine ⟨by simp, .inl ⟨_, _, rfl, run_takeDeferred hKW, ?_⟩⟩
        refine ⟨.bool true, ?_, ?_⟩
        · simp [results, Try.f58, go_sem, hc5]
        · rw [HE.out, HRES.out]
          refine ⟨rfl, HRP.out _ _ _ hRWW (fun k hk => hp.block k (by have := HGL.out k hk; omega) (hgD k hk)), ?_⟩
          refine chg_cut (Chg.of_below HB0.out) (HC1.out.mono fun k h => .inl h) (chg_trans (chg_trans (Chg.of_below HB2.out) hCWW) (hp.mono fun k h => .inr (by have h : k = D := h; omega)))
      case stop =>
        rintro D c pre WW hD hSp ⟨⟨rfl, hA⟩, ⟨hRWW, hx5⟩, hCW⟩ hKW
        obtain ⟨sp, hsp⟩ : ∃ sp, runL (fun (i : Fin (nK t)) s => foldP F (kidF t i) (d + 1) (b + moreZ t i) s) pre s1 = (false, sp) := ⟨_, Prod.ext hA rfl⟩
        have HRES := Aside0.mk (show runL (fun (i : Fin (nK t)) s => foldP F (kidF t i) (d + 1) (b + moreZ t i) s) (List.finRange (nK t)) s1 = (false, sp) by rw [runL_false _ hSp _ hA, hsp])
        rw [hsp] at hRWW
        have hszV := hCW.size
        have hCWW : Chg (fun k => G k ∨ w.heap.size ≤ k) w2 WW := hCW.mono fun k h => h.elim .inl fun h => .inr (by omega)
        clear hA hsp hSp hCW
        gi_wp2
        have hgD : ∀ k, G k → k ≠ D := fun k hk e => by have := HGL.out k hk; omega
        have hp := chg_put WW D (.deferred none)
        have hc5 : (WW.putObj D (.deferred none)).cell? ⟨w.heap.size + 1 + 1 + 1 + 1, 0, none⟩ = some (.bool false) := by
          rw [cell_of_row _ _ _ _ _ _ ((hp.block _ (blk_lt hx5) (by omega)).trans hx5)]; rfl
        refine ⟨by simp, .inl ⟨_, _, rfl, run_takeDeferred hKW, ?_⟩⟩
        refine ⟨.bool false, ?_, ?_⟩
        · simp [results, Try.f58, go_sem, hc5]
        · rw [HE.out, HRES.out]
          refine ⟨rfl, HRP.out _ _ _ hRWW (fun k hk => hp.block k (by have := HGL.out k hk; omega) (hgD k hk)), ?_⟩
          refine chg_cut (Chg.of_below HB0.out) (HC1.out.mono fun k h => .inl h) (chg_trans (chg_trans (Chg.of_below HB2.out) hCWW) (hp.mono fun k h => .inr (by have h : k = D := h; omega)))
end Go.Proofs.Ytdboloabpjmgaaa

/-! Fine -/
namespace Go.Proofs.Ytdboloabpjmgaaa
open Go.RowKit Go.Proofs.YtdboloabpjmgaaaW.PrintWords Go.RegionInvYtdboloabpjmgaaa

/-- Every node is right. -/
inductive Fine : Tm → Prop
  | mk {t : Tm} (ha : (t.kids.length : Int) = arZ t.kind) (hn : t.kind = 1 → 0 ≤ t.num ∧ t.num ≤ 1048576) (hk : ∀ i : Fin (nK t), Fine (kidF t i)) : Fine t
theorem Fine.num {t : Tm} (h : Fine t) : t.kind = 1 → 0 ≤ t.num ∧ t.num ≤ 1048576 := by cases h; assumption
theorem Fine.kid {t : Tm} (h : Fine t) : ∀ i : Fin (nK t), Fine (kidF t i) := by cases h; assumption
theorem mn_num0 {v : Int} {t : Tm} (h : mnP v t = 0) (h1 : t.kind = 1) : 0 ≤ t.num ∧ t.num ≤ 1048576 := by
  have ha := mn_arity h
  refine Classical.byContradiction fun hn => ?_
  rw [mn_num ha ⟨h1, by omega⟩] at h
  cases h
theorem may_fine (v : Int) (N : Nat) : ∀ (t : Tm), SizeOf.sizeOf t < N → ∀ (d b n : Int), (foldP (mtF v) t d b (n, 0)).1 = true →
    Fine t ∧ d + depthT t ≤ 65 ∧ n + sizeT t ≤ 400 ∧ (foldP (mtF v) t d b (n, 0)).2 = (n + sizeT t, 0) := by
  induction N with
  | zero => intro t h; omega
  | succ N ih =>
    intro t hN d b n h
    by_cases hl : 64 < d ∨ 400 < n + 1
    · rw [mt_long hl] at h; cases h
    · by_cases hm : mnP v t = 0
      · rw [mt_go hl hm] at h ⊢
        have key : ∀ (xs : List (Fin (nK t))) (n : Int), (runL (kidsM v t d b) xs (n, 0)).1 = true →
            (∀ x ∈ xs, Fine (kidF t x) ∧ d + 1 + depthT (kidF t x) ≤ 65) ∧ (n ≤ 400 → n + sumK t xs ≤ 400) ∧ (runL (kidsM v t d b) xs (n, 0)).2 = (n + sumK t xs, 0) := by
          intro xs
          induction xs with
          | nil =>
            intro n _
            refine ⟨(fun x hx => by cases hx), (fun h => by simp [sumK]; omega), ?_⟩
            refine Prod.ext ?_ rfl
            show n = n + ((sumK t [] : Nat) : Int)
            simp [sumK]
          | cons x r ihr =>
            intro n hm
            rw [runL] at hm ⊢
            by_cases hc : (kidsM v t d b x (n, 0)).1 = true
            · rw [if_pos hc] at hm ⊢
              have h4 := ih (kidF t x) (by have := kidF_lt t x; omega) (d + 1) (b + moreZ t x) n hc
              have h42 : (kidsM v t d b x (n, 0)).2 = (n + sizeT (kidF t x), 0) := h4.2.2.2
              rw [h42] at hm ⊢
              have h5 := ihr _ hm
              have e1 : sumK t (x :: r) = sizeT (kidF t x) + sumK t r := by unfold sumK; rw [List.map_cons, List.sum_cons]
              refine ⟨fun y hy => ?_, fun hn => ?_, ?_⟩
              · rcases List.mem_cons.1 hy with rfl | hy
                · exact ⟨h4.1, h4.2.1⟩
                · exact h5.1 y hy
              · have := h5.2.1 h4.2.2.1; rw [e1]; push_cast; omega
              · rw [h5.2.2, e1]
                refine Prod.ext ?_ rfl
                show n + (sizeT (kidF t x) : Int) + (sumK t r : Int) = n + ((sizeT (kidF t x) + sumK t r : Nat) : Int)
                push_cast
                omega
            · rw [if_neg hc] at hm; cases hm
        have h2 := key _ _ h
        have hd : d + depthT t ≤ 65 := by
          rw [depth_eq]
          have : maxK t (List.finRange (nK t)) ≤ (64 - d).toNat := by
            refine max_le_of fun x hx => ?_
            obtain ⟨i, hi, rfl⟩ := List.mem_map.1 hx
            have := (h2.1 i hi).2
            omega
          omega
        have h4 := h2.2.1 (by omega)
        refine ⟨.mk (mn_arity hm) (mn_num0 hm) fun i => (h2.1 i (List.mem_finRange i)).1, hd, by rw [size_eq]; push_cast; omega, ?_⟩
        rw [h2.2.2, size_eq]
        refine Prod.ext ?_ rfl
        show n + 1 + (sumK t (List.finRange (nK t)) : Int) = n + ((1 + sumK t (List.finRange (nK t)) : Nat) : Int)
        push_cast
        omega
      · rw [mt_stop hl rfl hm] at h; cases h
theorem may_ok {v : Int} {t : Tm} (h : mayT v t = 0) : Fine t ∧ depthT t ≤ 64 ∧ sizeT t ≤ 400 := by
  have h1 := (mt_true v _ t (Nat.lt_succ_self _) 1 0 (0, 0)).2 h
  have h2 := may_fine v _ t (Nat.lt_succ_self _) 1 0 0 h1
  exact ⟨h2.1, by omega, by omega⟩
/-! ### loose variables -/
def LV (t : Tm) (b : Int) : Int := if t.kind = 1 ∧ b ≤ t.num then min (t.num - b) 9223372036854775806 + 1 else 0
def LM (t : Tm) (b : Int) : Int := max (LV t b) (((List.finRange (nK t)).map fun i => LM (kidF t i) (b + moreZ t i)).foldr max 0)
termination_by SizeOf.sizeOf t
decreasing_by exact kidF_lt t i
def loK (t : Tm) (b : Int) (xs : List (Fin (nK t))) : Int := (xs.map fun i => LM (kidF t i) (b + moreZ t i)).foldr max 0
theorem lm_eq (t : Tm) (b : Int) : LM t b = max (LV t b) (loK t b (List.finRange (nK t))) := by rw [LM]; rfl
theorem loK_pos (t : Tm) (b : Int) (xs : List (Fin (nK t))) : 0 ≤ loK t b xs := by
  unfold loK
  induction xs with
  | nil => exact Int.le_refl _
  | cons x r ih => rw [List.map_cons, List.foldr_cons]; omega
theorem lm_pos (t : Tm) (b : Int) : 0 ≤ LM t b := by rw [lm_eq]; have := loK_pos t b (List.finRange (nK t)); omega
/-- Loose's visit. -/
def loF (t : Tm) (_ b : Int) (s : Int) : Bool × Int := (true, if t.kind = 1 ∧ b ≤ t.num then max s (min (t.num - b) 9223372036854775806 + 1) else s)
theorem lo_val (N : Nat) : ∀ (t : Tm), SizeOf.sizeOf t < N → ∀ (d b s : Int), 0 ≤ s → foldP loF t d b s = (true, max s (LM t b)) := by
  induction N with
  | zero => intro t h; omega
  | succ N ih =>
    intro t hN d b s hs
    rw [foldP_go rfl]
    have e1 : (loF t d b s).2 = max s (LV t b) := by
      unfold loF LV
      by_cases h : t.kind = 1 ∧ b ≤ t.num
      · rw [if_pos h, if_pos h]
      · rw [if_neg h, if_neg h]; show s = max s 0; omega
    rw [e1]
    have key : ∀ (xs : List (Fin (nK t))) (s : Int), 0 ≤ s → runL (fun (i : Fin (nK t)) s => foldP loF (kidF t i) (d + 1) (b + moreZ t i) s) xs s = (true, max s (loK t b xs)) := by
      intro xs
      induction xs with
      | nil => intro s hs; show (true, s) = (true, max s 0); rw [show max s 0 = s by omega]
      | cons x r ihr =>
        intro s hs
        have hx := ih (kidF t x) (by have := kidF_lt t x; omega) (d + 1) (b + moreZ t x) s hs
        rw [runL]
        simp only [hx, if_true]
        rw [ihr _ (by omega)]
        have e2 : loK t b (x :: r) = max (LM (kidF t x) (b + moreZ t x)) (loK t b r) := rfl
        rw [e2]
        simp only [Prod.mk.injEq, true_and]
        omega
    rw [key _ _ (by omega), lm_eq]
    simp only [Prod.mk.injEq, true_and]
    omega
theorem lm_up (N : Nat) : ∀ (t : Tm), SizeOf.sizeOf t < N → Fine t → ∀ (b : Int), 0 ≤ b → LM t (b + 1) = max 0 (LM t b - 1) := by
  induction N with
  | zero => intro t h; omega
  | succ N ih =>
    intro t hN hf b hb
    have key : ∀ (xs : List (Fin (nK t))), loK t (b + 1) xs = max 0 (loK t b xs - 1) := by
      intro xs
      induction xs with
      | nil => show (0 : Int) = max 0 (0 - 1); decide
      | cons x r ihr =>
        have e1 : loK t (b + 1) (x :: r) = max (LM (kidF t x) (b + 1 + moreZ t x)) (loK t (b + 1) r) := rfl
        have e2 : loK t b (x :: r) = max (LM (kidF t x) (b + moreZ t x)) (loK t b r) := rfl
        have hm := moreZ_in t x
        have hx := ih (kidF t x) (by have := kidF_lt t x; omega) (hf.kid x) (b + moreZ t x) (by omega)
        rw [e1, e2, show b + 1 + moreZ t x = b + moreZ t x + 1 by omega, hx, ihr]
        omega
    rw [lm_eq, lm_eq, key]
    have hv : LV t (b + 1) = max 0 (LV t b - 1) := by
      unfold LV
      by_cases h1 : t.kind = 1
      · have := hf.num h1
        by_cases h2 : b + 1 ≤ t.num
        · rw [if_pos ⟨h1, h2⟩, if_pos ⟨h1, by omega⟩]; omega
        · rw [if_neg (fun h => h2 h.2)]
          by_cases h3 : b ≤ t.num
          · rw [if_pos ⟨h1, h3⟩]; omega
          · rw [if_neg (fun h => h3 h.2)]; omega
      · rw [if_neg (fun h => h1 h.1), if_neg (fun h => h1 h.1)]; omega
    rw [hv]
    omega
/-! ### what own keeps -/
theorem map_fin_eq {α : Type} {n m : Nat} (h : n = m) (f : Fin n → α) (g : Fin m → α) (hfg : ∀ (i : Nat) (h1 : i < n) (h2 : i < m), f ⟨i, h1⟩ = g ⟨i, h2⟩) : (List.finRange n).map f = (List.finRange m).map g := by
  subst h
  exact List.map_congr_left fun i _ => hfg i.1 i.2 i.2
theorem nK_none {t : Tm} (h : t.kids = []) : nK t = 0 := by have := nK_le t; rw [h] at this; exact Nat.le_zero.1 this
theorem fin_none {t : Tm} (h : nK t = 0) : List.finRange (nK t) = [] := List.eq_nil_of_length_eq_zero (by rw [List.length_finRange]; exact h)
theorem lm_leaf {t : Tm} (h : nK t = 0) (b : Int) : LM t b = max (LV t b) 0 := by rw [lm_eq, fin_none h]; rfl
theorem own_keeps (N : Nat) : ∀ (t : Tm), SizeOf.sizeOf t < N → ∀ (c : Int), sizeT (rebP (fun t _ => nodeP t) t c) = sizeT t ∧ depthT (rebP (fun t _ => nodeP t) t c) = depthT t ∧ ∀ b, LM (rebP (fun t _ => nodeP t) t c) b = LM t b := by
  induction N with
  | zero => intro t h; omega
  | succ N ih =>
    intro t hN c
    by_cases hl : leafT t = true
    · have h0 : nK t = 0 := of_decide_eq_true hl
      have h1 : nK (nodeP t) = 0 := nK_none rfl
      rw [reb_leaf hl, size_leaf h0, size_leaf h1, depth_leaf h0, depth_leaf h1]
      refine ⟨rfl, rfl, fun b => ?_⟩
      rw [lm_leaf h0, lm_leaf h1]
      have e : LV (nodeP t) b = LV t b := by
        unfold LV
        by_cases hk : t.kind = 1
        · rw [nodeP_var hk]
          show (if (1 : Int) = 1 ∧ b ≤ t.num then min (t.num - b) 9223372036854775806 + 1 else 0) = _
          simp only [hk, true_and]
        · rw [if_neg (fun h => hk h.1), if_neg (fun h => hk h.1)]
      rw [e]
    · have hl' : leafT t = false := by simpa using hl
      have h0 : nK t ≠ 0 := of_decide_eq_false hl'
      obtain ⟨o, ho⟩ : ∃ o, o = rebP (fun t _ => nodeP t) t c := ⟨_, rfl⟩
      have e := ho.trans (reb_node hl')
      have hk : o.kind = t.kind := by rw [e]; rfl
      have hks : o.kids = rebKids (fun t _ => nodeP t) t c (List.finRange (nK t)) := by rw [e]; rfl
      have hlen : o.kids.length = nK t := by rw [hks, rebKids_len, List.length_finRange]
      have hn : nK o = nK t := by
        have : nK t = (arZ t.kind).toNat ∧ ¬ (t.kids.length : Int) < arZ t.kind := by
          unfold nK at h0 ⊢
          split at h0
          · exact absurd rfl h0
          · rename_i h; exact ⟨if_neg h, h⟩
        unfold nK
        rw [hk, hlen, if_neg (by have := arZ_in t.kind; omega)]
        exact this.1.symm
      have hkid : ∀ (i : Nat) (h1 : i < nK o) (h2 : i < nK t), kidF o ⟨i, h1⟩ = rebP (fun t _ => nodeP t) (kidF t ⟨i, h2⟩) (c + moreZ t i) := by
        intro i h1 h2
        have e1 := kidF_get o ⟨i, h1⟩
        rw [hks] at e1
        unfold rebKids at e1
        rw [List.getElem?_map, List.getElem?_eq_getElem (by rw [List.length_finRange]; exact h2)] at e1
        simpa using e1.symm
      have hm : ∀ i : Nat, moreZ o i = moreZ t i := fun i => by unfold moreZ; rw [hk]
      have hv : ∀ b, LV o b = LV t b := fun b => by
        have hk1 : t.kind ≠ 1 := fun h => h0 (by
          have := nK_le3 t
          unfold nK
          rw [h]
          split
          · rfl
          · rfl)
        unfold LV
        rw [hk, if_neg (fun h => hk1 h.1), if_neg (fun h => hk1 h.1)]
      rw [← ho]
      have ihk := fun (i : Fin (nK t)) => ih (kidF t i) (by have := kidF_lt t i; omega) (c + moreZ t i)
      refine ⟨?_, ?_, fun b => ?_⟩
      · rw [sizeT, sizeT]
        rw [map_fin_eq hn _ (fun i => sizeT (kidF t i)) fun i h1 h2 => by rw [hkid i h1 h2]; exact (ihk ⟨i, h2⟩).1]
      · rw [depthT, depthT]
        rw [map_fin_eq hn _ (fun i => depthT (kidF t i)) fun i h1 h2 => by rw [hkid i h1 h2]; exact (ihk ⟨i, h2⟩).2.1]
      · rw [LM, LM, hv]
        rw [map_fin_eq hn _ (fun i => LM (kidF t i) (b + moreZ t i)) fun i h1 h2 => by rw [hkid i h1 h2, hm]; exact (ihk ⟨i, h2⟩).2.2 _]
theorem own_size (t : Tm) : sizeT (ownT t) = sizeT t := by unfold ownT; split; exact (own_keeps _ t (Nat.lt_succ_self _) 0).1; rfl
theorem own_depth (t : Tm) : depthT (ownT t) = depthT t := by unfold ownT; split; exact (own_keeps _ t (Nat.lt_succ_self _) 0).2.1; rfl
theorem own_loose (t : Tm) (b : Int) : LM (ownT t) b = LM t b := by unfold ownT; split; exact (own_keeps _ t (Nat.lt_succ_self _) 0).2.2 b; rfl
end Go.Proofs.Ytdboloabpjmgaaa

/-! Loo -/
namespace Go.Proofs.Ytdboloabpjmgaaa
open Go.RowKit Go.Proofs.YtdboloabpjmgaaaW.PrintWords Go.RegionInvYtdboloabpjmgaaa

def RepLo (g1 : Nat) (s : Int) (w : World) : Prop := NumAt w g1 s
theorem lo_fin {w W : World} {g1 : Nat} {t : Tm} {d b s x y : Int} (h : NumAt W g1 s) (hc : Chg (fun k => k = g1) w W) (hv : loF t d b s = (true, y)) (hx : x = y) :
    FoldPost (RepLo g1) (fun k => k = g1) w (loF t d b s) (.returned (.bool true)) (W.setCell ⟨g1, 0, none⟩ (.int .i64 x)) := by
  subst hx
  rw [hv]
  exact ⟨rfl, h.set _, chg_trans hc (chg_set W g1 0 _)⟩
set_option maxHeartbeats 4000000 in
theorem loose1_calls (t : Tm) (p : Pl) (d b s : Int) (w : World) (g1 : Nat) (hb0 : 0 ≤ b) (hb1 : b ≤ 100000) (hs : 0 ≤ s ∧ s ≤ 9223372036854775807) (hn : -9223372036854775808 ≤ t.num ∧ t.num ≤ 9223372036854775807) (hR : RepLo g1 s w) :
    Calls Try.prog 78 #[tmV p t, .int .i64 d, .int .i64 b, .pointer (some ⟨g1, 0, none⟩)] w (FoldPost (RepLo g1) (fun k => k = g1) w (loF t d b s)) := by
  have h1 : NumAt w g1 s := hR
  obtain ⟨W, hW⟩ : ∃ W, W = w.alloc (tmO p t) := ⟨_, rfl⟩
  have HX := Aside0.mk (show W.heap[w.heap.size]? = some (tmO p t) by rw [hW]; exact blk_new _ _)
  have HC := Aside0.mk (show Chg (fun k => k = g1) w W by rw [hW]; exact chg_alloc _ _ _)
  have H1 := Aside0.mk (show NumAt W g1 s by rw [hW]; exact h1.alloc _)
  clear h1 hR
  unfold tmV
  unfold tmO at hW
  go_enter Try.func78, Try.ntmps78
  go_upto_region 1 with (fail)
  rw [← hW]
  clear hW
  have c1 := H1.out.cell
  have f1 := blk_frozen H1.out 0
  have z1 := blk_lt H1.out
  obtain ⟨o0, o1, o2, o3, o4, o5, o6, o7⟩ := row8 HX.out
  by_cases k1 : t.kind = 1
  · have e1 : (t.kind == 1) = true := by simp [k1]
    by_cases k2 : b ≤ t.num
    · have HH := Aside0.mk (show loF t d b s = (true, max s (min (t.num - b) 9223372036854775806 + 1)) by unfold loF; rw [if_pos ⟨k1, k2⟩])
      clear k1
      have hw : wrap64 (t.num - b) = t.num - b := by unfold wrap64; omega
      go_wp2
      all_goals go_ret
      all_goals exact lo_fin H1.out HC.out HH.out (by omega)
    · have HH := Aside0.mk (show loF t d b s = (true, s) by unfold loF; rw [if_neg (fun h => k2 h.2)])
      have k3 : t.num < b := by omega
      clear k1 k2
      go_wp2
      go_ret
      rw [HH.out]
      exact ⟨rfl, H1.out, HC.out⟩
  · have e1 : (t.kind == 1) = false := by simp [k1]
    have HH := Aside0.mk (show loF t d b s = (true, s) by unfold loF; rw [if_neg (fun h => k1 h.1)])
    clear k1
    go_wp2
    go_ret
    rw [HH.out]
    exact ⟨rfl, H1.out, HC.out⟩
theorem foldLo_calls (t : Tm) (p : Pl) (B g1 : Nat) (w : World) (h1 : B ≤ g1) (hin : TmIn w B p t) (hn1 : NumAt w g1 0) (hok : okT t) :
    Calls Try.prog 58 #[tmV p t, .int .i64 1, .int .i64 0, vfLo g1] w (FoldPost (RepLo g1) (fun k => k = g1) w (foldP loF t 1 0 0)) :=
  fold_Lo loF (RepLo g1) (fun s => 0 ≤ s ∧ s ≤ 9223372036854775807) (fun t d => 0 ≤ d ∧ d + depthT t ≤ 2001) (fun k => k = g1) B (g1 + 1) g1 (fun k h => by omega) (by omega)
    (fun s W W' h hs => (hs g1 rfl).trans h)
    (fun t p d b s w hP hb0 hb1 hI _ hin hR => loose1_calls t p d b s w g1 hb0 (by have := hP.2; omega) hI hin.fit.1 hR)
    (fun t d b s hP hI _ => ⟨by unfold loF; dsimp only; split <;> omega, fun i => by have := depth_kid t i; have := depth_pos (kidF t i); exact ⟨by omega, by omega⟩⟩)
    (fun t d h => by omega) _ t (Nat.lt_succ_self _) p 1 0 0 w ⟨by omega, by have := hok.2; omega⟩ (by omega) (by omega) ⟨by omega, by omega⟩ (by have := blk_lt hn1; omega) hin hn1
/-- One more than the greatest loose variable. -/
def LooseT (t : Tm) : Int := if okT t then LM t 0 else 0
theorem LooseT_ok {t : Tm} (h : okT t) : LooseT t = LM t 0 := if_pos h
theorem LooseT_no {t : Tm} (h : ¬ okT t) : LooseT t = 0 := if_neg h
set_option maxRecDepth 100000 in
set_option maxHeartbeats 4000000 in
theorem loose_calls (t : Tm) (p : Pl) (w : World) (hin : TmIn w w.heap.size p t) :
    Calls Try.prog 37 #[tmV p t] w fun e w' => e = .returned (.int .i64 (LooseT t)) ∧ Below w.heap.size w w' := by
  obtain ⟨W, hW⟩ : ∃ W, W = w.alloc (tmO p t) := ⟨_, rfl⟩
  have hb : Below w.heap.size w W := by rw [hW]; exact below_alloc (Below.refl _ _) _
  have HX := Aside0.mk (show W.heap[w.heap.size]? = some (tmO p t) by rw [hW]; exact blk_new _ _)
  have HB := Aside0.mk hb
  have HIN := Aside0.mk (TmIn.stay hin hb)
  have HGE := Aside0.mk (great_eq t)
  clear hin hb
  unfold tmV
  unfold tmO at hW
  go_enter Try.func37, Try.ntmps37
  go_upto_region 1 with (fail)
  rw [← hW]
  clear hW
  by_cases hk : okT t
  · have HG := Aside0.mk (show greatB t = false by rw [HGE.out]; simp [hk])
    have HK := Aside0.mk hk
    have HL := Aside0.mk (LooseT_ok hk)
    clear hk
    go_upto_region 4 with (first
      | (refine wpList_load_row rfl 28 _ rfl (w.heap.size) rfl 28 _ (0, 0) _ HX.out Try.underlying28 rfl (by kernel_rfl) ?_)
      | (go_at_call 55; go_must (refine (great_calls t p W (TmS.all HIN.out)).mono ?_; rintro e w1 ⟨rfl, hb⟩; rw [HG.out]; have HX1 := Aside0.mk ((hb.block _ (blk_lt HX.out)).trans HX.out); have HB1 := Aside0.mk (below_then HB.out HB.out.size hb); have HIN1 := Aside0.mk (TmIn.stay HIN.out (hb.mono HB.out.size)); clear hb)))
    obtain ⟨W2, hW2⟩ : ∃ W2, W2 = w1.alloc (.cells #[.int .i64 0] 3 (0, 0)) := ⟨_, rfl⟩
    have hb2 : Below w1.heap.size w1 W2 := by rw [hW2]; exact below_alloc (Below.refl _ _) _
    have HN2 := Aside0.mk (show NumAt W2 w1.heap.size 0 by rw [hW2]; exact blk_new _ _)
    have HX2 := Aside0.mk ((hb2.block _ (blk_lt HX1.out)).trans HX1.out)
    have HB2 := Aside0.mk (below_then HB1.out HB1.out.size hb2)
    have HIN2 := Aside0.mk (TmIn.stay HIN1.out (hb2.mono HB1.out.size))
    have HZ1 := Aside0.mk HB1.out.size
    rw [← hW2]
    clear hW2 hb2
    go_upto_region 5 with (first
      | (refine wpList_load_row rfl 28 _ rfl (w.heap.size) rfl 28 _ (0, 0) _ HX2.out Try.underlying28 rfl (by kernel_rfl) ?_)
      | (go_at_call 58; go_must (refine (foldLo_calls t p w.heap.size w1.heap.size W2 HZ1.out HIN2.out HN2.out HK.out).mono ?_; rintro e w3 ⟨rfl, hR, hC⟩; rw [lo_val _ t (Nat.lt_succ_self _) 1 0 0 (by omega)] at hR ⊢; have HR := Aside0.mk (show NumAt w3 w1.heap.size (max 0 (LM t 0)) from hR); have HB3 := Aside0.mk (Chg.trans_below HB2.out hC (fun k h => by have h : k = w1.heap.size := h; have := HZ1.out; omega) HB2.out.size); clear hR hC)))
    have r1 := HR.out.cell
    rw [show max 0 (LM t 0) = LM t 0 by have := lm_pos t 0; omega, ← HL.out] at r1
    go_wp2
    go_ret
    exact ⟨rfl, HB3.out⟩
  · have HG := Aside0.mk (show greatB t = true by rw [HGE.out]; simp [hk])
    have HL := Aside0.mk (LooseT_no hk)
    clear hk
    go_wp2_with (first
      | (refine wpList_load_row rfl 28 _ rfl (w.heap.size) rfl 28 _ (0, 0) _ HX.out Try.underlying28 rfl (by kernel_rfl) ?_)
      | (go_at_call 55; go_must (refine (great_calls t p W (TmS.all HIN.out)).mono ?_; rintro e w1 ⟨rfl, hb⟩; rw [HG.out]; have HB1 := Aside0.mk (below_then HB.out HB.out.size hb); clear hb)))
    go_ret
    rw [HL.out]
    exact ⟨rfl, HB1.out⟩
end Go.Proofs.Ytdboloabpjmgaaa

/-! Men -/
namespace Go.Proofs.Ytdboloabpjmgaaa
open Go.RowKit Go.Proofs.YtdboloabpjmgaaaW.PrintWords Go.RegionInvYtdboloabpjmgaaa

def StrAt (w : World) (g : Nat) (s : ByteArray) : Prop := w.heap[g]? = some (.cells #[.string s] 9 (0, 0))
theorem StrAt.cell {w : World} {g : Nat} {s : ByteArray} (h : StrAt w g s) : w.cell? ⟨g, 0, none⟩ = some (.string s) := by rw [cell_of_row _ _ _ _ _ _ h]; rfl
/-- Is it a constant of that name? -/
def menB (nm : ByteArray) (t : Tm) : Bool := decide (t.kind = 7) && (t.name.toList == nm.toList)
def menF (nm : ByteArray) (t : Tm) (_ _ : Int) (_ : Unit) : Bool × Unit := (!menB nm t, ())
/-- Is one in it? -/
def anyM (nm : ByteArray) (t : Tm) : Bool := menB nm t || (List.finRange (nK t)).any fun i => anyM nm (kidF t i)
termination_by SizeOf.sizeOf t
decreasing_by exact kidF_lt t i
theorem any_eq (nm : ByteArray) (t : Tm) : anyM nm t = (menB nm t || (List.finRange (nK t)).any fun i => anyM nm (kidF t i)) := by rw [anyM]
theorem men_val (nm : ByteArray) (N : Nat) : ∀ (t : Tm), SizeOf.sizeOf t < N → ∀ (d b : Int) (s : Unit), (foldP (menF nm) t d b s).1 = !anyM nm t := by
  induction N with
  | zero => intro t h; omega
  | succ N ih =>
    intro t hN d b s
    rw [any_eq]
    cases hm : menB nm t with
    | true =>
      have h1 : (menF nm t d b s).1 = false := by unfold menF; rw [hm]; rfl
      rw [foldP_stop h1, h1]; rfl
    | false =>
      have h1 : (menF nm t d b s).1 = true := by unfold menF; rw [hm]; rfl
      rw [foldP_go h1, Bool.false_or]
      have key : ∀ (xs : List (Fin (nK t))) (s : Unit), (runL (fun (i : Fin (nK t)) s => foldP (menF nm) (kidF t i) (d + 1) (b + moreZ t i) s) xs s).1 = !(xs.any fun i => anyM nm (kidF t i)) := by
        intro xs
        induction xs with
        | nil => intro s; rfl
        | cons x r ihr =>
          intro s
          have hx := ih (kidF t x) (by have := kidF_lt t x; omega) (d + 1) (b + moreZ t x) s
          rw [runL, List.any_cons]
          cases ha : anyM nm (kidF t x) with
          | true =>
            rw [ha] at hx
            rw [if_neg (by rw [hx]; decide)]
            rfl
          | false =>
            rw [ha] at hx
            rw [if_pos (by rw [hx]; rfl), ihr, Bool.false_or]
      exact key _ _
set_option maxHeartbeats 4000000 in
theorem men1_calls (nm : ByteArray) (t : Tm) (p : Pl) (d b : Int) (s : Unit) (w : World) (g1 : Nat) (hR : StrAt w g1 nm) :
    Calls Try.prog 81 #[tmV p t, .int .i64 d, .int .i64 b, .pointer (some ⟨g1, 0, none⟩)] w (FoldPost (fun (_ : Unit) w => StrAt w g1 nm) (fun _ => False) w (menF nm t d b s)) := by
  obtain ⟨W, hW⟩ : ∃ W, W = w.alloc (tmO p t) := ⟨_, rfl⟩
  have HX := Aside0.mk (show W.heap[w.heap.size]? = some (tmO p t) by rw [hW]; exact blk_new _ _)
  have HC := Aside0.mk (show Chg (fun _ => False) w W by rw [hW]; exact chg_alloc _ _ _)
  have H1 := Aside0.mk (show StrAt W g1 nm by rw [hW]; exact blk_alloc hR _)
  clear hR
  unfold tmV
  unfold tmO at hW
  go_enter Try.func81, Try.ntmps81
  go_upto_region 1 with (fail)
  rw [← hW]
  clear hW
  have c1 := H1.out.cell
  obtain ⟨o0, o1, o2, o3, o4, o5, o6, o7⟩ := row8 HX.out
  by_cases k1 : t.kind = 7
  · have e1 : (t.kind == 7) = true := by simp [k1]
    have e1' : (t.kind != 7) = false := by simp [k1]
    cases e2 : (t.name.toList == nm.toList) with
    | true =>
      have HH := Aside0.mk (show menF nm t d b s = (false, ()) by unfold menF menB; rw [decide_eq_true k1, e2]; rfl)
      clear k1
      go_wp2
      go_ret
      rw [HH.out]
      exact ⟨rfl, H1.out, HC.out⟩
    | false =>
      have HH := Aside0.mk (show menF nm t d b s = (true, ()) by unfold menF menB; rw [decide_eq_true k1, e2]; rfl)
      clear k1
      go_wp2
      go_ret
      rw [HH.out]
      exact ⟨rfl, H1.out, HC.out⟩
  · have e1 : (t.kind == 7) = false := by simp [k1]
    have e1' : (t.kind != 7) = true := by simp [k1]
    have HH := Aside0.mk (show menF nm t d b s = (true, ()) by unfold menF menB; rw [decide_eq_false k1]; rfl)
    clear k1
    go_wp2
    go_ret
    rw [HH.out]
    exact ⟨rfl, H1.out, HC.out⟩
theorem foldMt_calls (nm : ByteArray) (t : Tm) (p : Pl) (B g1 : Nat) (w : World) (h1 : B ≤ g1) (hin : TmIn w B p t) (hn1 : StrAt w g1 nm) (hok : okT t) :
    Calls Try.prog 58 #[tmV p t, .int .i64 1, .int .i64 0, vfMt g1] w (FoldPost (fun (_ : Unit) w => StrAt w g1 nm) (fun k => k = g1) w (foldP (menF nm) t 1 0 ())) :=
  fold_Mt (menF nm) (fun (_ : Unit) w => StrAt w g1 nm) (fun _ => True) (fun t d => 0 ≤ d ∧ d + depthT t ≤ 2001) (fun k => k = g1) B (g1 + 1) g1 (fun k h => by omega) (by omega)
    (fun s W W' h hs => (hs g1 rfl).trans h)
    (fun t p d b s w hP hb0 hb1 hI _ hin hR => (men1_calls nm t p d b s w g1 hR).mono fun e w' h => ⟨h.1, h.2.1, h.2.2.mono fun k h => h.elim⟩)
    (fun t d b s hP hI _ => ⟨trivial, fun i => by have := depth_kid t i; have := depth_pos (kidF t i); exact ⟨by omega, by omega⟩⟩)
    (fun t d h => by omega) _ t (Nat.lt_succ_self _) p 1 0 () w ⟨by omega, by have := hok.2; omega⟩ (by omega) (by omega) trivial (by have := blk_lt hn1; omega) hin hn1
def MentT (nm : ByteArray) (t : Tm) : Bool := decide (okT t) && anyM nm t
set_option maxRecDepth 100000 in
set_option maxHeartbeats 4000000 in
theorem mentions_calls (t : Tm) (p : Pl) (nm : ByteArray) (w : World) (hin : TmIn w w.heap.size p t) :
    Calls Try.prog 42 #[tmV p t, .string nm] w fun e w' => e = .returned (.bool (MentT nm t)) ∧ Below w.heap.size w w' := by
  obtain ⟨W, hW⟩ : ∃ W, W = (w.alloc (tmO p t)).alloc (.cells #[.string nm] 9 (0, 0)) := ⟨_, rfl⟩
  have hb : Below w.heap.size w W := by rw [hW]; exact below_alloc (below_alloc (Below.refl _ _) _) _
  have HX := Aside0.mk (show W.heap[w.heap.size]? = some (tmO p t) by rw [hW]; exact blk_alloc (blk_new _ _) _)
  have HS := Aside0.mk (show StrAt W (w.heap.size + 1) nm by rw [hW]; have := blk_new (w.alloc (tmO p t)) (.cells #[.string nm] 9 (0, 0)); simp only [World.size_alloc] at this; exact this)
  have HB := Aside0.mk hb
  have HIN := Aside0.mk (TmIn.stay hin hb)
  have HGE := Aside0.mk (great_eq t)
  clear hin hb
  unfold tmV
  unfold tmO at hW
  go_enter Try.func42, Try.ntmps42
  go_upto_region 1 with (fail)
  rw [← hW]
  clear hW
  by_cases hk : okT t
  · have HG := Aside0.mk (show greatB t = false by rw [HGE.out]; simp [hk])
    have HK := Aside0.mk hk
    obtain ⟨y, hy⟩ : ∃ y, anyM nm t = y := ⟨_, rfl⟩
    have HY := Aside0.mk hy
    have HM := Aside0.mk (show MentT nm t = y by unfold MentT; rw [decide_eq_true hk, hy]; rfl)
    clear hk hy
    go_wp2_with (first
      | (refine wpList_load_row rfl 28 _ rfl (w.heap.size) rfl 28 _ (0, 0) _ HX.out Try.underlying28 rfl (by kernel_rfl) ?_)
      | (refine wpList_load_row rfl 28 _ rfl (w.heap.size) rfl 28 _ (0, 0) _ HX1.out Try.underlying28 rfl (by kernel_rfl) ?_)
      | (go_at_call 55; go_must (refine (great_calls t p W (TmS.all HIN.out)).mono ?_; rintro e w1 ⟨rfl, hb⟩; rw [HG.out]; have HX1 := Aside0.mk ((hb.block _ (blk_lt HX.out)).trans HX.out); obtain ⟨c0, c1, c2, c3, c4, c5, c6, c7⟩ := row8 HX1.out; have HS1 := Aside0.mk (show StrAt w1 (w.heap.size + 1) nm from (hb.block _ (blk_lt HS.out)).trans HS.out); have HB1 := Aside0.mk (below_then HB.out HB.out.size hb); have HIN1 := Aside0.mk (TmIn.stay HIN.out (hb.mono HB.out.size)); clear hb))
      | (go_at_call 58; go_must (refine (foldMt_calls nm t p w.heap.size (w.heap.size + 1) w1 (by omega) HIN1.out HS1.out HK.out).mono ?_; rintro e w3 ⟨rfl, hR, hC⟩; rw [men_val nm _ t (Nat.lt_succ_self _) 1 0 (), HY.out]; have HB3 := Aside0.mk (Chg.trans_below HB1.out hC (fun k h => by have h : k = w.heap.size + 1 := h; omega) HB1.out.size); clear hR hC)))
    go_ret
    rw [HM.out]
    exact ⟨by simp, HB3.out⟩
  · have HG := Aside0.mk (show greatB t = true by rw [HGE.out]; simp [hk])
    have HM := Aside0.mk (show MentT nm t = false by unfold MentT; rw [decide_eq_false hk]; rfl)
    clear hk
    go_wp2_with (first
      | (refine wpList_load_row rfl 28 _ rfl (w.heap.size) rfl 28 _ (0, 0) _ HX.out Try.underlying28 rfl (by kernel_rfl) ?_)
      | (go_at_call 55; go_must (refine (great_calls t p W (TmS.all HIN.out)).mono ?_; rintro e w1 ⟨rfl, hb⟩; rw [HG.out]; have HB1 := Aside0.mk (below_then HB.out HB.out.size hb); clear hb)))
    go_ret
    rw [HM.out]
    exact ⟨rfl, HB1.out⟩
end Go.Proofs.Ytdboloabpjmgaaa

/-! Can -/
namespace Go.Proofs.Ytdboloabpjmgaaa
open Go.RowKit Go.Proofs.YtdboloabpjmgaaaW.PrintWords Go.RegionInvYtdboloabpjmgaaa

/-! ### a node over rebuilt kids -/
def overT (RF : Tm → Int → Tm) (t : Tm) (b : Int) : Tm := .mk t.kind 0 noName (.mk 0 0 []) [] (rebKids RF t b (List.finRange (nK t)))
theorem reb_over {RF : Tm → Int → Tm} {t : Tm} {b : Int} (h : leafT t = false) : rebP RF t b = overT RF t b := reb_node h
theorem leaf_nK {t : Tm} (h : leafT t = true) : nK t = 0 := of_decide_eq_true h
theorem leaf_nK' {t : Tm} (h : leafT t = false) : nK t ≠ 0 := of_decide_eq_false h
theorem nK_ar {t : Tm} (h : nK t ≠ 0) : (nK t : Int) = arZ t.kind := by
  unfold nK at h ⊢
  split
  · rename_i h2; rw [if_pos h2] at h; exact absurd rfl h
  · rename_i h2; rw [if_neg h2] at h; omega
theorem over_len (RF : Tm → Int → Tm) (t : Tm) (b : Int) : (overT RF t b).kids.length = nK t := by
  show (rebKids RF t b (List.finRange (nK t))).length = nK t
  rw [rebKids_len, List.length_finRange]
theorem over_nK {RF : Tm → Int → Tm} {t : Tm} {b : Int} (h : leafT t = false) : nK (overT RF t b) = nK t := by
  have h1 := nK_ar (leaf_nK' h)
  have h2 := over_len RF t b
  show (if ((overT RF t b).kids.length : Int) < arZ t.kind then 0 else (arZ t.kind).toNat) = nK t
  rw [h2, if_neg (by omega)]
  omega
theorem over_leaf {RF : Tm → Int → Tm} {t : Tm} {b : Int} (h : leafT t = false) : leafT (overT RF t b) = false := by
  unfold leafT
  rw [over_nK h]
  exact decide_eq_false (leaf_nK' h)
theorem over_get {RF : Tm → Int → Tm} {t : Tm} {b : Int} (i : Nat) (h2 : i < nK t) : (overT RF t b).kids[i]? = some (rebP RF (kidF t ⟨i, h2⟩) (b + moreZ t i)) := by
  show (rebKids RF t b (List.finRange (nK t)))[i]? = _
  unfold rebKids
  rw [List.getElem?_map, List.getElem?_eq_getElem (by rw [List.length_finRange]; exact h2)]
  simp
theorem over_kid {RF : Tm → Int → Tm} {t : Tm} {b : Int} (i : Nat) (h1 : i < nK (overT RF t b)) (h2 : i < nK t) : kidF (overT RF t b) ⟨i, h1⟩ = rebP RF (kidF t ⟨i, h2⟩) (b + moreZ t i) := by
  have e1 := kidF_get (overT RF t b) ⟨i, h1⟩
  rw [over_get i h2] at e1
  exact (Option.some.inj e1).symm
theorem over_more (RF : Tm → Int → Tm) (t : Tm) (b : Int) (i : Nat) : moreZ (overT RF t b) i = moreZ t i := rfl
/-- Rebuilt twice. -/
theorem reb_reb (F G : Tm → Int → Tm) (k : Int) (N : Nat) : ∀ (t : Tm), SizeOf.sizeOf t < N → ∀ (b c : Int), c = b + k → rebP G (rebP F t b) c = rebP (fun x e => rebP G (F x e) (e + k)) t b := by
  induction N with
  | zero => intro t h; omega
  | succ N ih =>
    intro t hN b c hc
    cases hl : leafT t with
    | true => rw [reb_leaf hl, reb_leaf hl, hc]
    | false =>
      rw [reb_over hl, reb_over (over_leaf hl), reb_over hl]
      show Tm.mk t.kind 0 noName (.mk 0 0 []) [] (rebKids G (overT F t b) c (List.finRange (nK (overT F t b)))) = Tm.mk t.kind 0 noName (.mk 0 0 []) [] (rebKids (fun x e => rebP G (F x e) (e + k)) t b (List.finRange (nK t)))
      congr 1
      unfold rebKids
      refine map_fin_eq (over_nK hl) _ _ fun i h1 h2 => ?_
      rw [over_kid i h1 h2, over_more]
      exact ih (kidF t ⟨i, h2⟩) (by have := kidF_lt t ⟨i, h2⟩; omega) _ _ (by show c + moreZ t i = b + moreZ t i + k; omega)
theorem reb2 (F G : Tm → Int → Tm) (t : Tm) (b : Int) : rebP G (rebP F t b) b = rebP (fun x e => rebP G (F x e) e) t b := by
  have h := reb_reb F G 0 _ t (Nat.lt_succ_self _) b b (by omega)
  simpa using h
/-! ### what all leaves are -/
inductive AllL (P : Tm → Int → Prop) : Tm → Int → Prop
  | leaf {t : Tm} {b : Int} (h : leafT t = true) (hp : P t b) : AllL P t b
  | node {t : Tm} {b : Int} (h : leafT t = false) (hk : ∀ i : Fin (nK t), AllL P (kidF t i) (b + moreZ t i)) : AllL P t b
theorem AllL.at_leaf {P : Tm → Int → Prop} {t : Tm} {b : Int} (h : AllL P t b) (hl : leafT t = true) : P t b := by
  cases h with
  | leaf _ hp => exact hp
  | node h _ => rw [hl] at h; cases h
theorem AllL.at_kid {P : Tm → Int → Prop} {t : Tm} {b : Int} (h : AllL P t b) (i : Fin (nK t)) : AllL P (kidF t i) (b + moreZ t i) := by
  cases h with
  | leaf hl _ => exact absurd i.2 (by have := leaf_nK hl; omega)
  | node _ hk => exact hk i
theorem AllL.mono {P Q : Tm → Int → Prop} {t : Tm} {b : Int} (h : AllL P t b) (f : ∀ x e, leafT x = true → P x e → Q x e) : AllL Q t b := by
  induction h with
  | leaf hl hp => exact .leaf hl (f _ _ hl hp)
  | node hl _ ih => exact .node hl ih
theorem AllL.both {P Q : Tm → Int → Prop} {t : Tm} {b : Int} (h : AllL P t b) (k : AllL Q t b) : AllL (fun x e => P x e ∧ Q x e) t b := by
  induction h with
  | leaf hl hp => exact .leaf hl ⟨hp, k.at_leaf hl⟩
  | node hl _ ih => exact .node hl fun i => ih i (k.at_kid i)
theorem AllL.shift {P : Tm → Int → Prop} {t : Tm} {b : Int} (h : AllL P t b) (k : Int) : AllL (fun x e => P x (e - k)) t (b + k) := by
  induction h with
  | leaf hl hp => exact .leaf hl (by rw [Int.add_sub_cancel]; exact hp)
  | node hl _ ih => exact .node hl fun i => by have := ih i; rwa [show ∀ a b c : Int, a + b + c = a + c + b by intros; omega] at this
/-- Whatever it is. -/
theorem all_of (P : Tm → Int → Prop) (N : Nat) (hP : ∀ x e, leafT x = true → P x e) : ∀ (t : Tm), SizeOf.sizeOf t < N → ∀ b, AllL P t b := by
  induction N with
  | zero => intro t h; omega
  | succ N ih =>
    intro t hN b
    cases hl : leafT t with
    | true => exact .leaf hl (hP _ _ hl)
    | false => exact .node hl fun i => ih _ (by have := kidF_lt t i; omega) _
theorem reb_congr {F G : Tm → Int → Tm} {t : Tm} {b : Int} (h : AllL (fun x e => F x e = G x e) t b) : rebP F t b = rebP G t b := by
  induction h with
  | leaf hl hp => rw [reb_leaf hl, reb_leaf hl, hp]
  | @node t b hl _ ih =>
    rw [reb_over hl, reb_over hl]
    show Tm.mk t.kind 0 noName (.mk 0 0 []) [] (rebKids F t b (List.finRange (nK t))) = Tm.mk t.kind 0 noName (.mk 0 0 []) [] (rebKids G t b (List.finRange (nK t)))
    congr 1
    exact List.map_congr_left fun i _ => ih i
theorem AllL.reb {P : Tm → Int → Prop} {F : Tm → Int → Tm} {k : Int} {t : Tm} {b : Int} (h : AllL (fun x e => AllL P (F x e) (e + k)) t b) : AllL P (rebP F t b) (b + k) := by
  induction h with
  | leaf hl hp => rw [reb_leaf hl]; exact hp
  | @node t b hl _ ih =>
    rw [reb_over hl]
    refine .node (over_leaf hl) fun i => ?_
    have h2 : i.1 < nK t := Nat.lt_of_lt_of_le i.2 (Nat.le_of_eq (over_nK hl))
    have := ih ⟨i.1, h2⟩
    rw [show i = ⟨i.1, i.2⟩ from rfl, over_kid i.1 i.2 h2]
    show AllL P _ (b + k + moreZ (overT F t b) i.1)
    rw [over_more, show b + k + moreZ t i.1 = b + moreZ t i.1 + k by omega]
    exact this
/-- How many binders there are around a leaf. -/
theorem all_depth (N : Nat) : ∀ (t : Tm), SizeOf.sizeOf t < N → ∀ b, AllL (fun _ e => b ≤ e ∧ e + 1 ≤ b + depthT t) t b := by
  induction N with
  | zero => intro t h; omega
  | succ N ih =>
    intro t hN b
    have hp := depth_pos t
    cases hl : leafT t with
    | true => exact .leaf hl (by omega)
    | false =>
      refine .node hl fun i => (ih (kidF t i) (by have := kidF_lt t i; omega) (b + moreZ t i)).mono fun x e _ h => ?_
      have := depth_kid t i
      have := moreZ_in t i
      omega
/-! ### how great, how deep, how open -/
theorem sum_lin {α : Type} (xs : List α) (f g h : α → Nat) (k : Nat) (hf : ∀ x ∈ xs, f x = g x + k * h x) : (xs.map f).sum = (xs.map g).sum + k * (xs.map h).sum := by
  induction xs with
  | nil => simp
  | cons x r ih =>
    rw [List.map_cons, List.map_cons, List.map_cons, List.sum_cons, List.sum_cons, List.sum_cons, ih fun y hy => hf y (List.mem_cons_of_mem _ hy), hf x (List.mem_cons_self ..), Nat.mul_add]
    omega
theorem occ_node {t : Tm} (h : leafT t = false) (b : Int) : occT t b = occK t b (List.finRange (nK t)) := by
  rw [occ_eq]
  have h1 : t.kind ≠ 1 := fun e => leaf_nK' h (by
    unfold nK
    rw [e]
    split
    · rfl
    · rfl)
  rw [if_neg (by unfold hitB; simp [h1]), Nat.zero_add]
/-- What is put in for the leaves that are hit. -/
theorem reb_size {F : Tm → Int → Tm} {k : Nat} {t : Tm} {b : Int} (h : AllL (fun x e => sizeT (F x e) = 1 + k * (if hitB x e = true then 1 else 0)) t b) : sizeT (rebP F t b) = sizeT t + k * occT t b := by
  induction h with
  | leaf hl hp =>
    rw [reb_leaf hl, hp, size_leaf (leaf_nK hl), occ_leaf (leaf_nK hl)]
  | @node t b hl _ ih =>
    rw [reb_over hl, occ_node hl, sizeT.eq_def (overT F t b), sizeT.eq_def t, map_fin_eq (over_nK hl) (fun i => sizeT (kidF (overT F t b) i)) (fun i => sizeT (rebP F (kidF t i) (b + moreZ t i))) fun i h1 h2 => by rw [over_kid i h1 h2]]
    unfold occK
    rw [sum_lin _ _ (fun i => sizeT (kidF t i)) (fun i => occT (kidF t i) (b + moreZ t i)) k fun i _ => ih i]
    omega
theorem max_le_add {α : Type} (xs : List α) (f g : α → Nat) (k : Nat) (hf : ∀ x ∈ xs, f x ≤ g x + k) : (xs.map f).foldr max 0 ≤ (xs.map g).foldr max 0 + k := by
  refine max_le_of fun x hx => ?_
  obtain ⟨i, hi, rfl⟩ := List.mem_map.1 hx
  have := le_max_of (l := xs.map g) (x := g i) (List.mem_map.2 ⟨i, hi, rfl⟩)
  have := hf i hi
  omega
theorem reb_depth {F : Tm → Int → Tm} {k : Nat} {t : Tm} {b : Int} (h : AllL (fun x e => depthT (F x e) ≤ 1 + k) t b) : depthT (rebP F t b) ≤ depthT t + k := by
  induction h with
  | leaf hl hp => rw [reb_leaf hl, depth_leaf (leaf_nK hl)]; exact hp
  | @node t b hl _ ih =>
    rw [reb_over hl, depthT.eq_def (overT F t b), depthT.eq_def t, map_fin_eq (over_nK hl) (fun i => depthT (kidF (overT F t b) i)) (fun i => depthT (rebP F (kidF t i) (b + moreZ t i))) fun i h1 h2 => by rw [over_kid i h1 h2]]
    have := max_le_add (List.finRange (nK t)) (fun i => depthT (rebP F (kidF t i) (b + moreZ t i))) (fun i => depthT (kidF t i)) k fun i _ => ih i
    omega
theorem lv_node {t : Tm} (h : leafT t = false) (b : Int) : LV t b = 0 := by
  unfold LV
  refine if_neg fun e => leaf_nK' h ?_
  unfold nK
  rw [e.1]
  split
  · rfl
  · rfl
theorem lm_node {t : Tm} (h : leafT t = false) (b : Int) : LM t b = loK t b (List.finRange (nK t)) := by
  rw [lm_eq, lv_node h]
  have := loK_pos t b (List.finRange (nK t))
  omega
theorem over_lm {F : Tm → Int → Tm} {t : Tm} {b c : Int} (h : leafT t = false) : LM (overT F t b) c = ((List.finRange (nK t)).map fun i => LM (rebP F (kidF t i) (b + moreZ t i)) (c + moreZ t i)).foldr max 0 := by
  rw [lm_node (over_leaf h)]
  unfold loK
  rw [map_fin_eq (over_nK h) (fun i => LM (kidF (overT F t b) i) (c + moreZ (overT F t b) i)) (fun i => LM (rebP F (kidF t i) (b + moreZ t i)) (c + moreZ t i)) fun i h1 h2 => by rw [over_kid i h1 h2, over_more]]
/-- Each leaf is as open as the term, at most. -/
theorem all_lm (N : Nat) : ∀ (t : Tm), SizeOf.sizeOf t < N → ∀ b, AllL (fun x e => LV x e ≤ LM t b) t b := by
  induction N with
  | zero => intro t h; omega
  | succ N ih =>
    intro t hN b
    cases hl : leafT t with
    | true => exact .leaf hl (by rw [lm_eq]; omega)
    | false =>
      refine .node hl fun i => (ih (kidF t i) (by have := kidF_lt t i; omega) (b + moreZ t i)).mono fun x e _ h => ?_
      have : LM (kidF t i) (b + moreZ t i) ≤ LM t b := by
        rw [lm_node hl]
        unfold loK
        have key : ∀ (xs : List (Fin (nK t))), i ∈ xs → LM (kidF t i) (b + moreZ t i) ≤ (xs.map fun i => LM (kidF t i) (b + moreZ t i)).foldr max 0 := by
          intro xs
          induction xs with
          | nil => intro h; cases h
          | cons y r ihr =>
            intro h
            rw [List.map_cons, List.foldr_cons]
            rcases List.mem_cons.1 h with rfl | h
            · omega
            · have := ihr h; omega
        exact key _ (List.mem_finRange i)
      omega
theorem occ_all {t : Tm} {b : Int} (h : AllL (fun x e => hitB x e = false) t b) : occT t b = 0 := by
  induction h with
  | leaf hl hp => rw [occ_leaf (leaf_nK hl), hp]; rfl
  | @node t b hl _ ih =>
    rw [occ_node hl]
    unfold occK
    have key : ∀ (xs : List (Fin (nK t))), (xs.map fun i => occT (kidF t i) (b + moreZ t i)).sum = 0 := by
      intro xs
      induction xs with
      | nil => rfl
      | cons y r ihr => rw [List.map_cons, List.sum_cons, ihr, ih y]
    exact key _
theorem all_occ (N : Nat) : ∀ (t : Tm), SizeOf.sizeOf t < N → ∀ b, occT t b = 0 → AllL (fun x e => hitB x e = false) t b := by
  induction N with
  | zero => intro t h; omega
  | succ N ih =>
    intro t hN b h0
    cases hl : leafT t with
    | true =>
      refine .leaf hl ?_
      rw [occ_leaf (leaf_nK hl)] at h0
      cases hh : hitB t b with
      | false => rfl
      | true => rw [hh] at h0; cases h0
    | false =>
      refine .node hl fun i => ih (kidF t i) (by have := kidF_lt t i; omega) _ ?_
      rw [occ_node hl] at h0
      have := le_sum_of (l := (List.finRange (nK t)).map fun i => occT (kidF t i) (b + moreZ t i)) (x := occT (kidF t i) (b + moreZ t i)) (List.mem_map.2 ⟨i, List.mem_finRange i, rfl⟩)
      unfold occK at h0
      omega
/-- How open a rebuilt term is, leaf by leaf. -/
theorem reb_lm {F : Tm → Int → Tm} {g : Int → Int} (hg : ∀ x y, g (max x y) = max (g x) (g y)) (h0 : g 0 = 0) {t : Tm} {b k : Int} (h : AllL (fun x e => LM (F x e) (e + k) = g (max (LV x e) 0)) t b) : LM (rebP F t b) (b + k) = g (LM t b) := by
  induction h with
  | leaf hl hp => rw [reb_leaf hl, hp, lm_leaf (leaf_nK hl)]
  | @node t b hl _ ih =>
    rw [reb_over hl, over_lm hl, lm_node hl]
    unfold loK
    have key : ∀ (xs : List (Fin (nK t))), (xs.map fun i => LM (rebP F (kidF t i) (b + moreZ t i)) (b + k + moreZ t i)).foldr max 0 = g ((xs.map fun i => LM (kidF t i) (b + moreZ t i)).foldr max 0) := by
      intro xs
      induction xs with
      | nil => exact h0.symm
      | cons y r ihr =>
        rw [List.map_cons, List.map_cons, List.foldr_cons, List.foldr_cons, hg, ihr, ← ih y, show b + k + moreZ t y = b + moreZ t y + k by omega]
    exact key _
end Go.Proofs.Ytdboloabpjmgaaa

/-! EnU -/
namespace Go.Proofs.Ytdboloabpjmgaaa
open Go.RowKit Go.Proofs.YtdboloabpjmgaaaW.PrintWords Go.RegionInvYtdboloabpjmgaaa Go.RegionEYtdboloabpjmgaaa

/-- A row of terms with numbers that can be read. -/
def EnAt (w : World) (A : Option Addr) (xs : List (Tm × Int)) : Prop := ∀ (i : Nat) (x : Tm × Int), xs[i]? = some x → ∃ g o q, A = some ⟨g, o, none⟩ ∧ g < w.heap.size ∧ TmIn w w.heap.size q x.1 ∧ ∀ (j : Nat) (v : Value), (enC q x)[j]? = some v → w.cell? ⟨g, o + i * 9 + j, none⟩ = some v
theorem EnAt.later {w w' : World} {A : Option Addr} {xs : List (Tm × Int)} (h : EnAt w A xs) (hb : Below w.heap.size w w') : EnAt w' A xs := fun i x hx => by
  obtain ⟨g, o, q, hA, hg, hi, hc⟩ := h i x hx
  exact ⟨g, o, q, hA, Nat.lt_of_lt_of_le hg hb.size, (TmS.later hi hb).all, fun j v hv => (cell_same (hb.block g hg)).trans (hc j v hv)⟩
theorem KidsE.at {w : World} {S : Nat → Prop} {lo : Nat} {V : Value} {xs : List (Tm × Int)} (h : KidsE w S lo V xs) : ∃ A c, V = .slice A xs.length c ∧ xs.length ≤ c ∧ c ≤ 9223372036854775807 ∧ EnAt w A xs := by
  obtain ⟨cells, q, ho, hk⟩ := h
  obtain ⟨A, c, rfl⟩ := own_slice ho
  refine ⟨A, c, rfl, own_cap ho, own_max ho, fun i x hx => ?_⟩
  have hi : i < xs.length := by
    rcases Nat.lt_or_ge i xs.length with h | h
    · exact h
    · rw [List.getElem?_eq_none h] at hx; cases hx
  obtain ⟨g, cap, hv, hb, hlt⟩ := ho.form (by omega)
  have hv' := hv
  injection hv with hA
  refine ⟨g, 0, q i, hA, hlt, (hk i x hx).2.all, fun j v hjv => ?_⟩
  have := ho.cells (g := g) (by rw [hv']; rfl) _ _ ((hk i x hx).1 j v hjv)
  rwa [add_flat, ← Nat.add_assoc] at this
theorem ends_d (N : Nat) : ∀ (t : Tm), SizeOf.sizeOf t < N → ∀ (d : Int), ∀ y ∈ endsP t d, d ≤ y.2 ∧ y.2 + 1 ≤ d + depthT t := by
  induction N with
  | zero => intro t h; omega
  | succ N ih =>
    intro t hN d y hy
    have hp := depth_pos t
    by_cases h0 : nK t = 0
    · rw [ends_leaf h0] at hy
      obtain rfl : y = (t, d) := by simpa using hy
      exact ⟨Int.le_refl _, by show d + 1 ≤ _; omega⟩
    · rw [ends_node h0] at hy
      obtain ⟨l, hl, hy⟩ := List.mem_flatten.1 hy
      obtain ⟨i, -, rfl⟩ := List.mem_map.1 hl
      have := ih (kidF t i) (by have := kidF_lt t i; omega) _ y hy
      have := depth_kid t i
      have := moreZ_in t i
      omega
theorem ends0_calls (t : Tm) (p : Pl) (w : World) (hin : TmIn w w.heap.size p t) (hok : okT t) : Calls Try.prog 80 #[tmV p t, .int .i64 0, .slice none 0 0] w fun e w' =>
    ∃ A n c, e = .returned (.slice A n c) ∧ n = (endsP t 0).length ∧ n ≤ c ∧ c ≤ 9223372036854775807 ∧ EnAt w' A (endsP t 0) ∧ Below w.heap.size w w' := by
  have h1 := hok.1
  have h2 := hok.2
  refine (ends_calls _ t (Nat.lt_succ_self _) p w.heap.size w.heap.size 0 (.slice none 0 0) [] w hin (Nat.le_refl _) (Nat.le_refl _) (by decide) (by omega) (by show 0 + sizeT t ≤ 30000; omega) (KidsE.nil _ _ _)).mono ?_
  rintro e w' ⟨V, rfl, hE, hG⟩
  rw [List.nil_append] at hE
  obtain ⟨A, c, rfl, hc, hm, hat⟩ := hE.at
  exact ⟨A, _, c, rfl, rfl, hc, hm, hat, hG.1.below (fun k h => by cases h) (Nat.le_refl _)⟩
/-! ### plainly -/
def loE (xs : List (Tm × Int)) : Int := (xs.map fun x => LV x.1 x.2).foldr max 0
theorem loE_cons (x : Tm × Int) (r : List (Tm × Int)) : loE (x :: r) = max (LV x.1 x.2) (loE r) := rfl
theorem loE_pos (xs : List (Tm × Int)) : 0 ≤ loE xs := by
  induction xs with
  | nil => exact Int.le_refl _
  | cons x r ih => rw [loE_cons]; omega
theorem loE_app (xs ys : List (Tm × Int)) : loE (xs ++ ys) = max (loE xs) (loE ys) := by
  have h0 : ∀ zs, 0 ≤ loE zs := by
    intro zs
    induction zs with
    | nil => exact Int.le_refl _
    | cons x r ih => rw [loE_cons]; omega
  induction xs with
  | nil => have := h0 ys; show loE ys = max 0 (loE ys); omega
  | cons x r ih => rw [List.cons_append, loE_cons, loE_cons, ih]; omega
theorem loE_ends (N : Nat) : ∀ (t : Tm), SizeOf.sizeOf t < N → ∀ (d : Int), loE (endsP t d) = LM t d := by
  induction N with
  | zero => intro t h; omega
  | succ N ih =>
    intro t hN d
    by_cases h0 : nK t = 0
    · rw [ends_leaf h0, lm_leaf h0]; rfl
    · rw [ends_node h0, lm_node (decide_eq_false h0)]
      have key : ∀ (xs : List (Fin (nK t))), loE ((xs.map fun i => endsP (kidF t i) (d + moreZ t i)).flatten) = loK t d xs := by
        intro xs
        induction xs with
        | nil => rfl
        | cons x r ihr =>
          rw [List.map_cons, List.flatten_cons, loE_app, ihr, ih (kidF t x) (by have := kidF_lt t x; omega) (d + moreZ t x)]
          rfl
      exact key _
def anE (nm : ByteArray) (xs : List (Tm × Int)) : Bool := xs.any fun x => menB nm x.1
theorem anE_ends (nm : ByteArray) (N : Nat) : ∀ (t : Tm), SizeOf.sizeOf t < N → ∀ (d : Int), anE nm (endsP t d) = anyM nm t := by
  induction N with
  | zero => intro t h; omega
  | succ N ih =>
    intro t hN d
    by_cases h0 : nK t = 0
    · rw [ends_leaf h0, any_eq, fin_none h0]; rfl
    · rw [ends_node h0, any_eq]
      have hk : menB nm t = false := by
        unfold menB
        have : t.kind ≠ 7 := fun e => h0 (by unfold nK; rw [e]; split <;> rfl)
        rw [decide_eq_false this]; rfl
      rw [hk, Bool.false_or]
      have key : ∀ (xs : List (Fin (nK t))), anE nm ((xs.map fun i => endsP (kidF t i) (d + moreZ t i)).flatten) = xs.any fun i => anyM nm (kidF t i) := by
        intro xs
        induction xs with
        | nil => rfl
        | cons x r ihr =>
          rw [List.map_cons, List.flatten_cons, List.any_cons, ← ihr, ← ih (kidF t x) (by have := kidF_lt t x; omega) (d + moreZ t x)]
          unfold anE
          rw [List.any_append]
      exact key _
def ocE (n : Int) (xs : List (Tm × Int)) : Nat := (xs.map fun x => if hitB x.1 (n + x.2) = true then 1 else 0).sum
theorem ocE_cons (n : Int) (x : Tm × Int) (r : List (Tm × Int)) : ocE n (x :: r) = (if hitB x.1 (n + x.2) = true then 1 else 0) + ocE n r := by unfold ocE; rw [List.map_cons, List.sum_cons]
theorem ocE_app (n : Int) (xs ys : List (Tm × Int)) : ocE n (xs ++ ys) = ocE n xs + ocE n ys := by unfold ocE; rw [List.map_append, List.sum_append]
theorem ocE_le (n : Int) (xs : List (Tm × Int)) : ocE n xs ≤ xs.length := by
  induction xs with
  | nil => exact Nat.le_refl _
  | cons x r ih => rw [ocE_cons, List.length_cons]; split <;> omega
theorem ocE_ends (n : Int) (N : Nat) : ∀ (t : Tm), SizeOf.sizeOf t < N → ∀ (d : Int), ocE n (endsP t d) = occT t (n + d) := by
  induction N with
  | zero => intro t h; omega
  | succ N ih =>
    intro t hN d
    by_cases h0 : nK t = 0
    · rw [ends_leaf h0, occ_leaf h0]; rfl
    · rw [ends_node h0, occ_node (decide_eq_false h0)]
      have key : ∀ (xs : List (Fin (nK t))), ocE n ((xs.map fun i => endsP (kidF t i) (d + moreZ t i)).flatten) = occK t (n + d) xs := by
        intro xs
        induction xs with
        | nil => rfl
        | cons x r ihr =>
          have e2 : occK t (n + d) (x :: r) = occT (kidF t x) (n + d + moreZ t x) + occK t (n + d) r := by unfold occK; rw [List.map_cons, List.sum_cons]
          rw [List.map_cons, List.flatten_cons, ocE_app, ihr, ih (kidF t x) (by have := kidF_lt t x; omega) (d + moreZ t x), e2, Int.add_assoc]
      exact key _
theorem drop_at {α : Type} {xs : List α} {i : Nat} {x : α} (h : xs[i]? = some x) : xs.drop i = x :: xs.drop (i + 1) := by
  obtain ⟨hl, rfl⟩ := List.getElem?_eq_some_iff.1 h
  exact List.drop_eq_getElem_cons hl
/-- The box of a term with a number. -/
abbrev enO (q : Pl) (x : Tm × Int) : Obj := .cells #[.int .i64 x.1.kind, .int .i64 x.1.num, .string x.1.name, .int .i64 x.1.lv.kind, .int .i64 x.1.lv.num, .slice q.A x.1.lv.kids.length q.c, .slice q.B x.1.ls.length q.d, .slice q.K x.1.kids.length q.e, .int .i64 x.2] 81 (0, 0)
theorem row9 {w : World} {g : Nat} {q : Pl} {x : Tm × Int} (h : w.heap[g]? = some (enO q x)) :
    w.cell? ⟨g, 0, none⟩ = some (.int .i64 x.1.kind) ∧ w.cell? ⟨g, 1, none⟩ = some (.int .i64 x.1.num) ∧ w.cell? ⟨g, 2, none⟩ = some (.string x.1.name) ∧ w.cell? ⟨g, 8, none⟩ = some (.int .i64 x.2) := by
  refine ⟨?_, ?_, ?_, ?_⟩ <;> (rw [cell_of_row _ _ _ _ _ _ h]; rfl)
theorem lv_no' {x : Tm} (h : x.kind ≠ 1) {b : Int} : LV x b = 0 := if_neg fun e => h e.1
set_option maxRecDepth 100000 in
set_option maxHeartbeats 4000000 in
theorem refLoose_calls (t : Tm) (p : Pl) (w : World) (hin : TmIn w w.heap.size p t) : Calls Try.prog 41 #[tmV p t] w fun e w' => e = .returned (.int .i64 (LooseT t)) ∧ Below w.heap.size w w' := by
  have HIN := Aside0.mk hin
  obtain ⟨W, hW⟩ : ∃ W, W = w.alloc (tmO p t) := ⟨_, rfl⟩
  have hb : Below w.heap.size w W := by rw [hW]; exact below_alloc (Below.refl _ _) _
  have HX := Aside0.mk (show W.heap[w.heap.size]? = some (tmO p t) by rw [hW]; exact blk_new _ _)
  have HB := Aside0.mk hb
  clear hin hb
  unfold tmV
  unfold tmO at hW
  go_enter Try.func41, Try.ntmps41
  go_upto_region 1 with (fail)
  rw [← hW]
  clear hW
  by_cases hk : okT t
  · have HK := Aside0.mk hk
    have HR := Aside0.mk (show (!decide (okT t)) = false by simp [hk])
    have HV := Aside0.mk (LooseT_ok hk)
    have HDP := Aside0.mk (show 0 + (depthT t : Int) ≤ 2000 by have := hk.2; omega)
    clear hk
    go_upto_region 4 with (first
      | (refine wpList_load_row rfl 28 _ rfl (w.heap.size) rfl 28 _ (0, 0) _ HX.out Try.underlying28 rfl (by kernel_rfl) ?_)
      | (go_at_call 26; go_must (refine (tooGreat_calls t p W (TmS.all (HIN.out.stay HB.out))).mono ?_; rintro e w1 ⟨rfl, hb⟩; rw [HR.out]; have HX1 := Aside0.mk ((hb.block _ (blk_lt HX.out)).trans HX.out); have HB1 := Aside0.mk (below_then HB.out HB.out.size hb); clear hb)))
    go_wp2_with (first
      | (refine wpList_load_row rfl 28 _ rfl (w.heap.size) rfl 28 _ (0, 0) _ HX1.out Try.underlying28 rfl (by kernel_rfl) ?_)
      | (go_at_call 80; go_must (refine (ends0_calls t p w1 (TmS.all (HIN.out.stay HB1.out)) HK.out).mono ?_; rintro e w2 ⟨A, n, c, rfl, hnl, hnc, hcm, hen, hb⟩; have HNL := Aside0.mk hnl; have HEN := Aside0.mk hen; have HB2 := Aside0.mk (below_then HB1.out HB1.out.size hb); clear hnl hen hb)))
    go_loopw [3, 12] (fun u i wr => ∃ (k : Nat) (m : Int), i = .int .i64 k ∧ u = .int .i64 m ∧ k ≤ n ∧ ((0 ≤ m ∧ m ≤ 9223372036854775807) ∧ Aside0 (max m (loE ((endsP t 0).drop k)) = loE (endsP t 0))) ∧ Aside0 (Below w2.heap.size w2 wr)) (fun _ i _ => n - (intOf i).toNat)
    case atStart => exact ⟨0, 0, rfl, rfl, Nat.zero_le _, ⟨⟨Int.le_refl _, by decide⟩, ⟨by rw [List.drop_zero]; exact Int.max_eq_right (loE_pos _)⟩⟩, ⟨Below.refl _ _⟩⟩
    case round =>
      obtain ⟨k, m, rfl, rfl, hk, hm, HBL⟩ := hrel
      by_cases hlt : k < n
      · obtain ⟨x, hx⟩ : ∃ x, (endsP t 0)[k]? = some x := ⟨_, List.getElem?_eq_getElem (by have := HNL.out; omega)⟩
        obtain ⟨g, o, q, hA, hg, hxin, hcells⟩ := (HEN.out.later HBL.out) k x hx
        have HDR := Aside0.mk (drop_at hx)
        have hxd := ends_d _ t (Nat.lt_succ_self _) 0 x (List.mem_of_getElem? hx)
        have hxf := hxin.fit.1
        have hdp := HDP.out
        have hx0 : 0 ≤ x.2 := hxd.1
        have hx1 : x.2 ≤ 2000 := by omega
        have e0 := hcells 0 _ rfl
        have e1 := hcells 1 _ rfl
        have e2 := hcells 2 _ rfl
        have e3 := hcells 3 _ rfl
        have e4 := hcells 4 _ rfl
        have e5 := hcells 5 _ rfl
        have e6 := hcells 6 _ rfl
        have e7 := hcells 7 _ rfl
        have e8 := hcells 8 _ rfl
        rw [Nat.add_zero] at e0
        subst hA
        clear hcells hxin hx hxd hdp hg
        go_upto_region 7 with (fail)
        obtain ⟨W5, hW5⟩ : ∃ W5, W5 = wr.alloc (enO q x) := ⟨_, rfl⟩
        have hb5 : Below wr.heap.size wr W5 := by rw [hW5]; exact below_alloc (Below.refl _ _) _
        have HX5 := Aside0.mk (show W5.heap[wr.heap.size]? = some (enO q x) by rw [hW5]; exact blk_new _ _)
        have HB5 := Aside0.mk (below_then HBL.out HBL.out.size hb5)
        unfold enO at hW5
        rw [← hW5]
        clear hW5 hb5 e0 e1 e2 e3 e4 e5 e6 e7 e8
        obtain ⟨r0, r1, r2, r8⟩ := row9 HX5.out
        have HMX := Aside0.mk (show max (max m (LV x.1 x.2)) (loE ((endsP t 0).drop (k + 1))) = loE (endsP t 0) by rw [← hm.2.out, HDR.out, loE_cons]; omega)
        obtain ⟨xn, hxn⟩ : ∃ y, x.1.num = y := ⟨_, rfl⟩
        obtain ⟨xd, hxd⟩ : ∃ y, x.2 = y := ⟨_, rfl⟩
        rw [hxn] at r1 hxf
        rw [hxd] at r8 hx0 hx1
        have hm1 := hm.1
        by_cases k1 : x.1.kind = 1
        · have b1 : (x.1.kind == 1) = true := by simp [k1]
          have HLV := Aside0.mk (show LV x.1 x.2 = if xd ≤ xn then min (xn - xd) 9223372036854775806 + 1 else 0 by unfold LV; rw [hxn, hxd]; simp only [k1, true_and])
          have HDR' := HDR
          clear k1 hxn hxd HDR hm
          by_cases k2 : xd ≤ xn
          · have HL2 := Aside0.mk (HLV.out.trans (if_pos k2))
            by_cases k3 : xn - xd = 9223372036854775807
            · have b3 : (xn - xd == 9223372036854775807) = true := by simp [k3]
              have hw : wrap64 (xn - xd) = xn - xd := by unfold wrap64; omega
              have HM3 := Aside0.mk (show max m (LV x.1 x.2) = xn - xd by rw [HL2.out]; omega)
              have hr3 : 0 ≤ xn - xd ∧ xn - xd ≤ 9223372036854775807 := by omega
              clear k3
              go_wp2
              go_roundw
              case rel => exact ⟨k + 1, xn - xd, by go_num, rfl, by omega, ⟨hr3, ⟨by rw [← HM3.out]; exact HMX.out⟩⟩, HB5⟩
              case measure => (simp [intOf]; try omega)
            · have b3 : (xn - xd == 9223372036854775807) = false := by simp [k3]
              have hw : wrap64 (xn - xd) = xn - xd := by unfold wrap64; omega
              have HM3 := Aside0.mk (show max m (LV x.1 x.2) = max m (xn - xd + 1) by rw [HL2.out]; omega)
              have hw2 : wrap64 (xn - xd + 1) = xn - xd + 1 := by unfold wrap64; omega
              have hr3 : 0 ≤ max m (xn - xd + 1) ∧ max m (xn - xd + 1) ≤ 9223372036854775807 := by omega
              have k3' : xn - xd < 9223372036854775807 := by omega
              clear k3
              go_wp2
              all_goals
                go_roundw
                case rel => exact ⟨k + 1, max m (xn - xd + 1), by go_num, by first | rfl | (congr 1; omega) | (congr 1; split <;> omega), by omega, ⟨hr3, ⟨by rw [← HM3.out]; exact HMX.out⟩⟩, HB5⟩
                case measure => (simp [intOf]; try omega)
          · have HL2 := Aside0.mk (HLV.out.trans (if_neg k2))
            have k2' : xn < xd := by omega
            have HM3 := Aside0.mk (show max m (LV x.1 x.2) = m by rw [HL2.out]; omega)
            clear k2
            go_wp2
            go_roundw
            case rel => exact ⟨k + 1, m, by go_num, rfl, by omega, ⟨hm1, ⟨by rw [← HM3.out]; exact HMX.out⟩⟩, HB5⟩
            case measure => (simp [intOf]; try omega)
        · have b1 : (x.1.kind == 1) = false := by simp [k1]
          have HM3 := Aside0.mk (show max m (LV x.1 x.2) = m by rw [lv_no' k1]; omega)
          clear k1 hm
          go_wp2
          go_roundw
          case rel => exact ⟨k + 1, m, by go_num, rfl, by omega, ⟨hm1, ⟨by rw [← HM3.out]; exact HMX.out⟩⟩, HB5⟩
          case measure => (simp [intOf]; try omega)
      · obtain rfl : k = n := by omega
        have hlt' : decide ((k : Int) < k) = false := by simp
        have HFIN := Aside0.mk (below_then HB2.out HB2.out.size HBL.out)
        have HZ := Aside0.mk (show LooseT t = m by
          have h := hm.2.out
          have h1 := hm.1
          rw [List.drop_of_length_le (by have := HNL.out; omega)] at h
          rw [HV.out, ← loE_ends _ t (Nat.lt_succ_self _) 0, ← h]
          show max m 0 = m
          omega)
        go_wp2
        go_ret
        rw [HZ.out]
        exact ⟨rfl, HFIN.out⟩
  · have HR := Aside0.mk (show (!decide (okT t)) = true by simp [hk])
    have HV := Aside0.mk (LooseT_no hk)
    clear hk
    go_wp2_with (first
      | (refine wpList_load_row rfl 28 _ rfl (w.heap.size) rfl 28 _ (0, 0) _ HX.out Try.underlying28 rfl (by kernel_rfl) ?_)
      | (go_at_call 26; go_must (refine (tooGreat_calls t p W (TmS.all (HIN.out.stay HB.out))).mono ?_; rintro e w1 ⟨rfl, hb⟩; rw [HR.out]; have HB1 := Aside0.mk (below_then HB.out HB.out.size hb); clear hb)))
    go_ret
    rw [HV.out]
    exact ⟨rfl, HB1.out⟩
set_option maxRecDepth 100000 in
set_option maxHeartbeats 4000000 in
theorem refMentions_calls (t : Tm) (p : Pl) (nm : ByteArray) (w : World) (hin : TmIn w w.heap.size p t) : Calls Try.prog 43 #[tmV p t, .string nm] w fun e w' => e = .returned (.bool (MentT nm t)) ∧ Below w.heap.size w w' := by
  have HIN := Aside0.mk hin
  obtain ⟨W, hW⟩ : ∃ W, W = w.alloc (tmO p t) := ⟨_, rfl⟩
  have hb : Below w.heap.size w W := by rw [hW]; exact below_alloc (Below.refl _ _) _
  have HX := Aside0.mk (show W.heap[w.heap.size]? = some (tmO p t) by rw [hW]; exact blk_new _ _)
  have HB := Aside0.mk hb
  clear hin hb
  unfold tmV
  unfold tmO at hW
  go_enter Try.func43, Try.ntmps43
  go_upto_region 1 with (fail)
  rw [← hW]
  clear hW
  by_cases hk : okT t
  · have HK := Aside0.mk hk
    have HR := Aside0.mk (show (!decide (okT t)) = false by simp [hk])
    have HV := Aside0.mk (show MentT nm t = anyM nm t by unfold MentT; rw [decide_eq_true hk]; rfl)
    have HDP := Aside0.mk (show 0 + (depthT t : Int) ≤ 2000 by have := hk.2; omega)
    clear hk
    go_upto_region 4 with (first
      | (refine wpList_load_row rfl 28 _ rfl (w.heap.size) rfl 28 _ (0, 0) _ HX.out Try.underlying28 rfl (by kernel_rfl) ?_)
      | (go_at_call 26; go_must (refine (tooGreat_calls t p W (TmS.all (HIN.out.stay HB.out))).mono ?_; rintro e w1 ⟨rfl, hb⟩; rw [HR.out]; have HX1 := Aside0.mk ((hb.block _ (blk_lt HX.out)).trans HX.out); have HB1 := Aside0.mk (below_then HB.out HB.out.size hb); clear hb)))
    go_wp2_with (first
      | (refine wpList_load_row rfl 28 _ rfl (w.heap.size) rfl 28 _ (0, 0) _ HX1.out Try.underlying28 rfl (by kernel_rfl) ?_)
      | (go_at_call 80; go_must (refine (ends0_calls t p w1 (TmS.all (HIN.out.stay HB1.out)) HK.out).mono ?_; rintro e w2 ⟨A, n, c, rfl, hnl, hnc, hcm, hen, hb⟩; have HNL := Aside0.mk hnl; have HEN := Aside0.mk hen; have HB2 := Aside0.mk (below_then HB1.out HB1.out.size hb); clear hnl hen hb)))
    go_loopw [5, 13] (fun u i wr => ∃ (k : Nat) (m : Bool), i = .int .i64 k ∧ u = .bool m ∧ k ≤ n ∧ (Aside0 ((m || anE nm ((endsP t 0).drop k)) = anE nm (endsP t 0))) ∧ Aside0 (Below w2.heap.size w2 wr)) (fun _ i _ => n - (intOf i).toNat)
    case atStart => exact ⟨0, false, rfl, rfl, Nat.zero_le _, ⟨by rw [List.drop_zero]; rfl⟩, ⟨Below.refl _ _⟩⟩
    case round =>
      obtain ⟨k, m, rfl, rfl, hk, hm, HBL⟩ := hrel
      by_cases hlt : k < n
      · obtain ⟨x, hx⟩ : ∃ x, (endsP t 0)[k]? = some x := ⟨_, List.getElem?_eq_getElem (by have := HNL.out; omega)⟩
        obtain ⟨g, o, q, hA, hg, hxin, hcells⟩ := (HEN.out.later HBL.out) k x hx
        have HDR := Aside0.mk (drop_at hx)
        have hxd := ends_d _ t (Nat.lt_succ_self _) 0 x (List.mem_of_getElem? hx)
        have hxf := hxin.fit.1
        have hdp := HDP.out
        have hx0 : 0 ≤ x.2 := hxd.1
        have hx1 : x.2 ≤ 2000 := by omega
        have e0 := hcells 0 _ rfl
        have e1 := hcells 1 _ rfl
        have e2 := hcells 2 _ rfl
        have e3 := hcells 3 _ rfl
        have e4 := hcells 4 _ rfl
        have e5 := hcells 5 _ rfl
        have e6 := hcells 6 _ rfl
        have e7 := hcells 7 _ rfl
        have e8 := hcells 8 _ rfl
        rw [Nat.add_zero] at e0
        subst hA
        clear hcells hxin hx hxd hdp hg
        go_upto_region 7 with (fail)
        obtain ⟨W5, hW5⟩ : ∃ W5, W5 = wr.alloc (enO q x) := ⟨_, rfl⟩
        have hb5 : Below wr.heap.size wr W5 := by rw [hW5]; exact below_alloc (Below.refl _ _) _
        have HX5 := Aside0.mk (show W5.heap[wr.heap.size]? = some (enO q x) by rw [hW5]; exact blk_new _ _)
        have HB5 := Aside0.mk (below_then HBL.out HBL.out.size hb5)
        unfold enO at hW5
        rw [← hW5]
        clear hW5 hb5 e0 e1 e2 e3 e4 e5 e6 e7 e8
        obtain ⟨r0, r1, r2, r8⟩ := row9 HX5.out
        have HMX := Aside0.mk (show ((m || menB nm x.1) || anE nm ((endsP t 0).drop (k + 1))) = anE nm (endsP t 0) by rw [← hm.out, HDR.out]; unfold anE; rw [List.any_cons, Bool.or_assoc])
        obtain ⟨xs, hxs⟩ : ∃ y, x.1.name = y := ⟨_, rfl⟩
        rw [hxs] at r2
        cases m with
        | true =>
          clear hm
          go_wp2
          go_roundw
          case rel => exact ⟨k + 1, true, by go_num, rfl, by omega, ⟨by have h := HMX.out; rw [Bool.true_or] at h; exact h⟩, HB5⟩
          case measure => (simp [intOf]; try omega)
        | false =>
          by_cases k1 : x.1.kind = 7
          · have b1 : (x.1.kind == 7) = true := by simp [k1]
            cases hn : (xs.toList == nm.toList) with
            | true =>
              have HME := Aside0.mk (show menB nm x.1 = true by unfold menB; rw [decide_eq_true k1, hxs, hn]; rfl)
              clear k1 hm hxs
              go_wp2
              go_roundw
              case rel => exact ⟨k + 1, true, by go_num, rfl, by omega, ⟨by have h := HMX.out; rw [HME.out] at h; exact h⟩, HB5⟩
              case measure => (simp [intOf]; try omega)
            | false =>
              have HME := Aside0.mk (show menB nm x.1 = false by unfold menB; rw [decide_eq_true k1, hxs, hn]; rfl)
              clear k1 hm hxs
              go_wp2
              go_roundw
              case rel => exact ⟨k + 1, false, by go_num, rfl, by omega, ⟨by have h := HMX.out; rw [HME.out] at h; exact h⟩, HB5⟩
              case measure => (simp [intOf]; try omega)
          · have b1 : (x.1.kind == 7) = false := by simp [k1]
            have HME := Aside0.mk (show menB nm x.1 = false by unfold menB; rw [decide_eq_false k1]; rfl)
            clear k1 hm hxs
            go_wp2
            go_roundw
            case rel => exact ⟨k + 1, false, by go_num, rfl, by omega, ⟨by have h := HMX.out; rw [HME.out] at h; exact h⟩, HB5⟩
            case measure => (simp [intOf]; try omega)
      · obtain rfl : k = n := by omega
        have hlt' : decide ((k : Int) < k) = false := by simp
        have HFIN := Aside0.mk (below_then HB2.out HB2.out.size HBL.out)
        have HZ := Aside0.mk (show MentT nm t = m by
          have h := hm.out
          rw [List.drop_of_length_le (by have := HNL.out; omega)] at h
          rw [HV.out, ← anE_ends nm _ t (Nat.lt_succ_self _) 0, ← h]
          exact Bool.or_false m)
        go_wp2
        go_ret
        rw [HZ.out]
        exact ⟨rfl, HFIN.out⟩
  · have HR := Aside0.mk (show (!decide (okT t)) = true by simp [hk])
    have HV := Aside0.mk (show MentT nm t = false by unfold MentT; rw [decide_eq_false hk]; rfl)
    clear hk
    go_wp2_with (first
      | (refine wpList_load_row rfl 28 _ rfl (w.heap.size) rfl 28 _ (0, 0) _ HX.out Try.underlying28 rfl (by kernel_rfl) ?_)
      | (go_at_call 26; go_must (refine (tooGreat_calls t p W (TmS.all (HIN.out.stay HB.out))).mono ?_; rintro e w1 ⟨rfl, hb⟩; rw [HR.out]; have HB1 := Aside0.mk (below_then HB.out HB.out.size hb); clear hb)))
    go_ret
    rw [HV.out]
    exact ⟨rfl, HB1.out⟩
set_option maxRecDepth 100000 in
set_option maxHeartbeats 4000000 in
theorem refOccurs_calls (t : Tm) (p : Pl) (nn : Int) (hnn : 0 ≤ nn ∧ nn ≤ 1000000) (w : World) (hin : TmIn w w.heap.size p t) (hk : okT t) : Calls Try.prog 52 #[tmV p t, .int .i64 nn] w fun e w' => e = .returned (.int .i64 (occT t nn)) ∧ Below w.heap.size w w' := by
  have HIN := Aside0.mk hin
  obtain ⟨W, hW⟩ : ∃ W, W = w.alloc (tmO p t) := ⟨_, rfl⟩
  have hb : Below w.heap.size w W := by rw [hW]; exact below_alloc (Below.refl _ _) _
  have HX := Aside0.mk (show W.heap[w.heap.size]? = some (tmO p t) by rw [hW]; exact blk_new _ _)
  have HB := Aside0.mk hb
  clear hin hb
  unfold tmV
  unfold tmO at hW
  go_enter Try.func52, Try.ntmps52
  go_upto_region 1 with (fail)
  rw [← hW]
  clear hW
  · have HK := Aside0.mk hk
    have HV := Aside0.mk (show ocE nn (endsP t 0) = occT t nn by rw [ocE_ends nn _ t (Nat.lt_succ_self _) 0, Int.add_zero])
    have HDP := Aside0.mk (show 0 + (depthT t : Int) ≤ 2000 by have := hk.2; omega)
    clear hk
    go_wp2_with (first
      | (refine wpList_load_row rfl 28 _ rfl (w.heap.size) rfl 28 _ (0, 0) _ HX.out Try.underlying28 rfl (by kernel_rfl) ?_)
      | (go_at_call 80; go_must (refine (ends0_calls t p W (TmS.all (HIN.out.stay HB.out)) HK.out).mono ?_; rintro e w2 ⟨A, n, c, rfl, hnl, hnc, hcm, hen, hb⟩; have HNL := Aside0.mk hnl; have HEN := Aside0.mk hen; have HB2 := Aside0.mk (below_then HB.out HB.out.size hb); clear hnl hen hb)))
    go_loopw [5, 11] (fun u i wr => ∃ (k : Nat) (m : Nat), i = .int .i64 k ∧ u = .int .i64 m ∧ k ≤ n ∧ (m ≤ k ∧ Aside0 (m + ocE nn ((endsP t 0).drop k) = ocE nn (endsP t 0))) ∧ Aside0 (Below w2.heap.size w2 wr)) (fun _ i _ => n - (intOf i).toNat)
    case atStart => exact ⟨0, 0, rfl, rfl, Nat.zero_le _, ⟨Nat.le_refl _, ⟨by rw [List.drop_zero]; exact Nat.zero_add _⟩⟩, ⟨Below.refl _ _⟩⟩
    case round =>
      obtain ⟨k, m, rfl, rfl, hk, hm, HBL⟩ := hrel
      by_cases hlt : k < n
      · obtain ⟨x, hx⟩ : ∃ x, (endsP t 0)[k]? = some x := ⟨_, List.getElem?_eq_getElem (by have := HNL.out; omega)⟩
        obtain ⟨g, o, q, hA, hg, hxin, hcells⟩ := (HEN.out.later HBL.out) k x hx
        have HDR := Aside0.mk (drop_at hx)
        have hxd := ends_d _ t (Nat.lt_succ_self _) 0 x (List.mem_of_getElem? hx)
        have hxf := hxin.fit.1
        have hdp := HDP.out
        have hx0 : 0 ≤ x.2 := hxd.1
        have hx1 : x.2 ≤ 2000 := by omega
        have e0 := hcells 0 _ rfl
        have e1 := hcells 1 _ rfl
        have e2 := hcells 2 _ rfl
        have e3 := hcells 3 _ rfl
        have e4 := hcells 4 _ rfl
        have e5 := hcells 5 _ rfl
        have e6 := hcells 6 _ rfl
        have e7 := hcells 7 _ rfl
        have e8 := hcells 8 _ rfl
        rw [Nat.add_zero] at e0
        subst hA
        clear hcells hxin hx hxd hdp hg
        go_upto_region 5 with (fail)
        obtain ⟨W5, hW5⟩ : ∃ W5, W5 = wr.alloc (enO q x) := ⟨_, rfl⟩
        have hb5 : Below wr.heap.size wr W5 := by rw [hW5]; exact below_alloc (Below.refl _ _) _
        have HX5 := Aside0.mk (show W5.heap[wr.heap.size]? = some (enO q x) by rw [hW5]; exact blk_new _ _)
        have HB5 := Aside0.mk (below_then HBL.out HBL.out.size hb5)
        unfold enO at hW5
        rw [← hW5]
        clear hW5 hb5 e0 e1 e2 e3 e4 e5 e6 e7 e8
        obtain ⟨r0, r1, r2, r8⟩ := row9 HX5.out
        have HMX := Aside0.mk (show m + (if hitB x.1 (nn + x.2) = true then 1 else 0) + ocE nn ((endsP t 0).drop (k + 1)) = ocE nn (endsP t 0) by rw [← hm.2.out, HDR.out, ocE_cons]; omega)
        obtain ⟨xn, hxn⟩ : ∃ y, x.1.num = y := ⟨_, rfl⟩
        obtain ⟨xd, hxd⟩ : ∃ y, x.2 = y := ⟨_, rfl⟩
        rw [hxn] at r1 hxf
        rw [hxd] at r8 hx0 hx1
        have hm1 := hm.1
        have hw : wrap64 (nn + xd) = nn + xd := by unfold wrap64; omega
        by_cases k1 : x.1.kind = 1
        · have b1 : (x.1.kind == 1) = true := by simp [k1]
          by_cases k2 : xn = nn + xd
          · have b2 : (xn == nn + xd) = true := by simp [k2]
            have HME := Aside0.mk (show hitB x.1 (nn + x.2) = true from decide_eq_true ⟨k1, by rw [hxn, hxd]; exact k2⟩)
            clear k1 k2 hm hxn hxd
            go_wp2
            go_roundw
            case rel => exact ⟨k + 1, m + 1, by go_num, by go_num, by omega, ⟨by omega, ⟨by have h := HMX.out; rw [HME.out] at h; exact h⟩⟩, HB5⟩
            case measure => (simp [intOf]; try omega)
          · have b2 : (xn == nn + xd) = false := by simp [k2]
            have HME := Aside0.mk (show hitB x.1 (nn + x.2) = false from decide_eq_false fun h => k2 (by rw [← hxn, ← hxd]; exact h.2))
            clear k1 k2 hm hxn hxd
            go_wp2
            go_roundw
            case rel => exact ⟨k + 1, m, by go_num, rfl, by omega, ⟨by omega, ⟨by have h := HMX.out; rw [HME.out] at h; exact h⟩⟩, HB5⟩
            case measure => (simp [intOf]; try omega)
        · have b1 : (x.1.kind == 1) = false := by simp [k1]
          have HME := Aside0.mk (show hitB x.1 (nn + x.2) = false from decide_eq_false fun h => k1 h.1)
          clear k1 hm hxn hxd
          go_wp2
          go_roundw
          case rel => exact ⟨k + 1, m, by go_num, rfl, by omega, ⟨by omega, ⟨by have h := HMX.out; rw [HME.out] at h; exact h⟩⟩, HB5⟩
          case measure => (simp [intOf]; try omega)
      · obtain rfl : k = n := by omega
        have hlt' : decide ((k : Int) < k) = false := by simp
        have HFIN := Aside0.mk (below_then HB2.out HB2.out.size HBL.out)
        have HZ := Aside0.mk (show occT t nn = m by
          have h := hm.2.out
          rw [List.drop_of_length_le (by have := HNL.out; omega), HV.out] at h
          rw [← h]
          rfl)
        go_wp2
        go_ret
        rw [HZ.out]
        exact ⟨rfl, HFIN.out⟩
end Go.Proofs.Ytdboloabpjmgaaa

/-! Dep -/
namespace Go.Proofs.Ytdboloabpjmgaaa
open Go.RowKit Go.Proofs.YtdboloabpjmgaaaW.PrintWords Go.RegionInvYtdboloabpjmgaaa

def maxD (t : Tm) (xs : List (Fin (nK t))) : Nat := (xs.map fun i => depthT (kidF t i)).foldr max 0
theorem depth_def (t : Tm) : depthT t = maxD t (List.finRange (nK t)) + 1 := by rw [depthT, Nat.add_comm]; rfl
theorem maxD_cons (t : Tm) (i : Fin (nK t)) (r : List (Fin (nK t))) : maxD t (i :: r) = max (depthT (kidF t i)) (maxD t r) := rfl
theorem max_if (m n : Nat) : (Value.int .i64 (if m < n then (n : Int) else m)) = .int .i64 ((max m n : Nat) : Int) := by congr 1; split <;> omega
/-- Depth: 0 of what is too great. -/
def depD (t : Tm) : Int := if okT t then depthT t else 0
set_option maxRecDepth 100000 in
set_option maxHeartbeats 16000000 in
theorem refdepth_calls (N : Nat) : ∀ (t : Tm), SizeOf.sizeOf t < N → ∀ (p : Pl) (B : Nat) (w : World), TmIn w B p t → B ≤ w.heap.size → depthT t ≤ 2000 →
    Calls Try.prog 79 #[tmV p t] w fun e w' => e = .returned (.int .i64 (depthT t)) ∧ Below w.heap.size w w' := by
  induction N with
  | zero => intro t h; omega
  | succ N ih =>
    intro t hN p B w hin hBz hdt
    have IH := Aside0.mk ih
    have HNN := Aside0.mk hN
    obtain ⟨W, hW⟩ : ∃ W, W = w.alloc (tmO p t) := ⟨_, rfl⟩
    have hb : Below w.heap.size w W := by rw [hW]; exact below_alloc (Below.refl _ _) _
    have HB := Aside0.mk hb
    have HX := Aside0.mk (show W.heap[w.heap.size]? = some (tmO p t) by rw [hW]; exact blk_new _ _)
    have HIN := Aside0.mk hin
    have hlen := hin.len
    have HDEF := Aside0.mk (depth_def t)
    have HDT := Aside0.mk hdt
    clear ih hN hin hb hdt
    obtain ⟨pA, pc, pB, pd, pK, pe⟩ := p
    dsimp only at hlen
    unfold tmV
    unfold tmO at hW
    dsimp only
    obtain ⟨tk, htk⟩ : ∃ x, t.kind = x := ⟨_, rfl⟩
    obtain ⟨L, hL⟩ : ∃ x, t.kids.length = x := ⟨_, rfl⟩
    rw [htk] at hW ⊢
    rw [hL] at hW hlen ⊢
    have HTK := Aside0.mk htk
    have HL := Aside0.mk hL
    have hL9 : L ≤ 9223372036854775807 := by omega
    have HLEAF := Aside0.mk (show ∀ w, Calls Try.prog 77 #[.agg #[.int .i64 tk, .int .i64 t.num, .string t.name, .int .i64 t.lv.kind, .int .i64 t.lv.num, .slice pA t.lv.kids.length pc, .slice pB t.ls.length pd, .slice pK L pe]] w fun e w' => e = .returned (.bool (leafR t)) ∧ Below w.heap.size w w' from fun w => leafAt t ⟨pA, pc, pB, pd, pK, pe⟩ w w 0 _ (by rw [← htk, ← hL]; rfl) (by omega))
    have HX' := Aside0.mk (show W.heap[w.heap.size]? = some (.cells #[.int .i64 tk, .int .i64 t.num, .string t.name, .int .i64 t.lv.kind, .int .i64 t.lv.num, .slice pA t.lv.kids.length pc, .slice pB t.ls.length pd, .slice pK L pe] 28 (0, 0)) by rw [← htk, ← hL]; exact HX.out)
    clear htk hL HX
    go_enter Try.func79, Try.ntmps79
    go_upto_region 2 with (fail)
    rw [← hW]
    clear hW
    cases hlf : leafR t with
    | true =>
      have HLF := Aside0.mk hlf
      have HE := Aside0.mk (depth_leaf (nK_leaf hlf))
      clear hlf
      go_wp2_with (first
        | (refine wpList_load_row rfl 28 _ rfl w.heap.size rfl 28 _ (0, 0) _ HX'.out Try.underlying28 rfl (by kernel_rfl) ?_)
        | (go_at_call 77; go_must (refine (HLEAF.out _).mono ?_; rintro e w2 ⟨rfl, hb⟩; rw [HLF.out]; have HB2 := Aside0.mk (below_then HB.out HB.out.size hb); clear hb)))
      go_ret
      rw [HE.out]
      exact ⟨rfl, HB2.out⟩
    | false =>
      have HLF := Aside0.mk hlf
      obtain ⟨hk1, hk2, hk3⟩ := nK_eq hlf
      obtain ⟨ar, har⟩ : ∃ x, nK t = x := ⟨_, rfl⟩
      have HNK := Aside0.mk har
      have HAC := Aside0.mk (show ∀ w, Calls Try.prog 39 #[.int .i64 tk] w fun e w' => e = .returned (.int .i64 (ar : Int)) ∧ w' = w from fun w => by rw [← har, hk1, HTK.out]; exact refkids_calls _ _)
      have har3 : ar ≤ 3 := by rw [← har]; exact nK_le3 t
      have harL : ar ≤ L := by rw [← har, ← HL.out]; exact nK_le t
      have hare : ar ≤ pe := by omega
      have hareI : (ar : Int) ≤ pe := by omega
      clear hlf hk1 hk2 hk3 har
      go_upto_region 3 with (first
        | (refine wpList_load_row rfl 28 _ rfl w.heap.size rfl 28 _ (0, 0) _ HX'.out Try.underlying28 rfl (by kernel_rfl) ?_)
        | (go_at_call 77; go_must (refine (HLEAF.out _).mono ?_; rintro e w2 ⟨rfl, hb⟩; rw [HLF.out]; have HB2 := Aside0.mk (below_then HB.out HB.out.size hb); have HX2 := Aside0.mk ((hb.block _ (blk_lt HX'.out)).trans HX'.out); clear hb)))
      have c0 : w2.cell? ⟨w.heap.size, 0, none⟩ = some (.int .i64 tk) := by rw [cell_of_row _ _ _ _ _ _ HX2.out]; rfl
      have c7 : w2.cell? ⟨w.heap.size, 7, none⟩ = some (.slice pK L pe) := by rw [cell_of_row _ _ _ _ _ _ HX2.out]; rfl
      go_quiet ((go_at_call 39; exact Calls.quiet_of_same (HAC.out _)))
      clear c0 c7 HX' HLEAF HX2 HB
      obtain ⟨qq, hq⟩ := HIN.out.kid
      have HQ := Aside0.mk hq
      clear hq
      go_wp2
      go_loopw [3, 16] (fun u i wr => ∃ (k m : Nat), i = .int .i64 k ∧ u = .int .i64 m ∧ k ≤ ar ∧ m ≤ 2000 ∧ Aside0 (max m (maxD t ((List.finRange (nK t)).drop k)) = maxD t (List.finRange (nK t))) ∧ Aside0 (Below w.heap.size w wr)) (fun _ i _ => ar - (intOf i).toNat)
      case atStart => exact ⟨0, 0, rfl, rfl, Nat.zero_le _, by omega, ⟨by rw [List.drop_zero]; exact Nat.max_eq_right (Nat.zero_le _)⟩, ⟨below_drewN HB2.out _⟩⟩
      case round =>
        clear HB2
        obtain ⟨k, m, rfl, rfl, hk, hm, HK, HBR⟩ := hrel
        by_cases hlt : k < ar
        · have hkn : k < nK t := by rw [HNK.out]; exact hlt
          have hx := kidF_get t ⟨k, hkn⟩
          have HDF := Aside0.mk (drop_fin hkn)
          have HDK := Aside0.mk (depth_kid t ⟨k, hkn⟩)
          obtain ⟨x, hxe⟩ : ∃ x, kidF t ⟨k, hkn⟩ = x := ⟨_, rfl⟩
          have HXL := Aside0.mk (show SizeOf.sizeOf x < SizeOf.sizeOf t by rw [← hxe]; exact kidF_lt t _)
          have HMC := Aside0.mk (maxD_cons t ⟨k, hkn⟩ ((List.finRange (nK t)).drop (k + 1)))
          rw [hxe] at hx HDK HMC
          obtain ⟨⟨bk, o, hpK, hSb, hcells⟩, hxin⟩ := HQ.out k x hx
          try dsimp only at hpK
          have hkeep : ∀ j, j < B → wr.heap[j]? = w.heap[j]? := fun j hj => HBR.out.block j (by omega)
          have hbk : ∀ j v, (tmC (qq k) x)[j]? = some v → wr.cell? ⟨bk, o + k * 8 + j, none⟩ = some v := fun j v hv => (cell_same (hkeep bk hSb)).trans (hcells j v hv)
          have d0 := hbk 0 _ rfl
          have d1 := hbk 1 _ rfl
          have d2 := hbk 2 _ rfl
          have d3 := hbk 3 _ rfl
          have d4 := hbk 4 _ rfl
          have d5 := hbk 5 _ rfl
          have d6 := hbk 6 _ rfl
          have d7 := hbk 7 _ rfl
          rw [Nat.add_zero] at d0
          have HXIN := Aside0.mk (show TmIn wr B (qq k) x from TmS.same hxin fun j hj _ => hkeep j hj)
          have hbr : B ≤ wr.heap.size := by have := HBR.out.size; omega
          have HPK := Aside0.mk hpK
          rw [hpK]
          obtain ⟨dx, hdx⟩ : ∃ dx, depthT x = dx := ⟨_, rfl⟩
          have hdx2 : dx ≤ 1999 := by have := HDK.out; have := HDT.out; rw [hdx] at *; omega
          have HDX := Aside0.mk hdx
          have HK2 := Aside0.mk (show max (max m dx) (maxD t ((List.finRange (nK t)).drop (k + 1))) = maxD t (List.finRange (nK t)) by rw [← HK.out, HDF.out, HMC.out, hdx, Nat.max_assoc])
          clear hcells hx hxin hbk hpK hxe HDF hkeep hdx HMC hkn
          go_wp2_with (go_at_call 79; go_must (refine (IH.out x (by have := HXL.out; have := HNN.out; omega) (qq k) B _ (TmIn.stay HXIN.out ((Below.refl _ _).alloc (by omega) _)) (by simp; omega) (by rw [HDX.out]; omega)).mono ?_; rintro e w3 ⟨rfl, hb⟩; rw [HDX.out]; have HB3 := Aside0.mk (show Below w.heap.size w w3 from Below.trans (below_alloc HBR.out _) (hb.mono (by have := HBR.out.size; simp; omega))); clear hb))
          all_goals
            go_roundw
            case rel => exact ⟨k + 1, max m dx, by go_num, by first | exact max_if m dx | (rw [Nat.max_eq_left (by omega)]) | (rw [Nat.max_eq_right (by omega)]), by omega, by omega, HK2, HB3⟩
            case measure => (simp [intOf]; try omega)
        · obtain rfl : k = ar := by omega
          have hlt' : decide ((k : Int) < k) = false := by simp
          have HZ := Aside0.mk (show depthT t = m + 1 by
            have h := HK.out
            rw [List.drop_of_length_le (by rw [List.length_finRange, HNK.out]; exact Nat.le_refl _)] at h
            rw [HDEF.out, ← h]
            show max m 0 + 1 = m + 1
            rw [Nat.max_eq_left (Nat.zero_le _)])
          go_wp2
          go_ret
          rw [HZ.out]
          exact ⟨by push_cast; rfl, HBR.out⟩
set_option maxHeartbeats 4000000 in
theorem refDepth_calls (t : Tm) (p : Pl) (w : World) (hin : TmIn w w.heap.size p t) : Calls Try.prog 40 #[tmV p t] w fun e w' => e = .returned (.int .i64 (depD t)) ∧ Below w.heap.size w w' := by
  have HIN := Aside0.mk hin
  obtain ⟨W, hW⟩ : ∃ W, W = w.alloc (tmO p t) := ⟨_, rfl⟩
  have hb : Below w.heap.size w W := by rw [hW]; exact below_alloc (Below.refl _ _) _
  have HX := Aside0.mk (show W.heap[w.heap.size]? = some (tmO p t) by rw [hW]; exact blk_new _ _)
  have HB := Aside0.mk hb
  clear hin hb
  unfold tmV
  unfold tmO at hW
  go_enter Try.func40, Try.ntmps40
  go_upto_region 1 with (fail)
  rw [← hW]
  clear hW
  by_cases hk : okT t
  · have HK := Aside0.mk hk
    have HR := Aside0.mk (show (!decide (okT t)) = false by simp [hk])
    have HV := Aside0.mk (show depD t = depthT t from if_pos hk)
    clear hk
    go_wp2_with (first
      | (refine wpList_load_row rfl 28 _ rfl w.heap.size rfl 28 _ (0, 0) _ HX.out Try.underlying28 rfl (by kernel_rfl) ?_)
      | (refine wpList_load_row rfl 28 _ rfl w.heap.size rfl 28 _ (0, 0) _ HX1.out Try.underlying28 rfl (by kernel_rfl) ?_)
      | (go_at_call 26; go_must (refine (tooGreat_calls t p W (TmS.all (HIN.out.stay HB.out))).mono ?_; rintro e w1 ⟨rfl, hb⟩; rw [HR.out]; have HX1 := Aside0.mk ((hb.block _ (blk_lt HX.out)).trans HX.out); have HB1 := Aside0.mk (below_then HB.out HB.out.size hb); clear hb))
      | (go_at_call 79; go_must (refine (refdepth_calls _ t (Nat.lt_succ_self _) p w1.heap.size w1 (TmS.all (HIN.out.stay HB1.out)) (Nat.le_refl _) HK.out.2).mono ?_; rintro e w2 ⟨rfl, hb⟩; have HB2 := Aside0.mk (below_then HB1.out HB1.out.size hb); clear hb)))
    go_ret
    rw [HV.out]
    exact ⟨rfl, HB2.out⟩
  · have HR := Aside0.mk (show (!decide (okT t)) = true by simp [hk])
    have HV := Aside0.mk (show depD t = 0 from if_neg hk)
    clear hk
    go_wp2_with (first
      | (refine wpList_load_row rfl 28 _ rfl w.heap.size rfl 28 _ (0, 0) _ HX.out Try.underlying28 rfl (by kernel_rfl) ?_)
      | (go_at_call 26; go_must (refine (tooGreat_calls t p W (TmS.all (HIN.out.stay HB.out))).mono ?_; rintro e w1 ⟨rfl, hb⟩; rw [HR.out]; have HB1 := Aside0.mk (below_then HB.out HB.out.size hb); clear hb)))
    go_ret
    rw [HV.out]
    exact ⟨rfl, HB1.out⟩
end Go.Proofs.Ytdboloabpjmgaaa

/-! TSzR -/
namespace Go.Proofs.Ytdboloabpjmgaaa
open Go.RowKit Go.Proofs.YtdboloabpjmgaaaW.PrintWords Go.RegionInvYtdboloabpjmgaaa Go.RegionEYtdboloabpjmgaaa
set_option linter.unusedVariables false

theorem dep_meas (t : Tm) : depD t = (measP t).2 := by
  unfold depD
  by_cases h : okT t
  · rw [if_pos h, meas_yes h]
  · rw [if_neg h, meas_no h]

def sz_ops : List Oper := [
  { dst := some 5, op := Go.Op.load 28 (Go.Operand.tmp 2), type := 28, pos := "law.go:99", after := #[], guard := none },
  { dst := some 6, op := Go.Op.call { callee := Go.Callee.value (Go.Operand.func 20), args := #[Go.Operand.tmp 5], argTypes := #[28] }, type := 3, pos := "law.go:99", after := #[{ on := 0, ground := Go.Ground.data }], guard := none },
  { dst := some 7, op := Go.Op.load 28 (Go.Operand.tmp 2), type := 28, pos := "law.go:99", after := #[], guard := none },
  { dst := some 8, op := Go.Op.call { callee := Go.Callee.value (Go.Operand.func 21), args := #[Go.Operand.tmp 7], argTypes := #[28] }, type := 3, pos := "law.go:99", after := #[{ on := 2, ground := Go.Ground.data }, { on := 1, ground := Go.Ground.chain }], guard := none },
  { dst := some 9, op := Go.Op.binOp Go.BinOp.eql 3 (Go.Operand.tmp 6) (Go.Operand.tmp 8) 3, type := 4, pos := "law.go:99", after := #[{ on := 1, ground := Go.Ground.data }, { on := 3, ground := Go.Ground.data }], guard := none },
  { dst := some 10, op := Go.Op.move (Go.Operand.tmp 9), type := 4, pos := "law.go:99", after := #[{ on := 4, ground := Go.Ground.data }, { on := 3, ground := Go.Ground.chain }], guard := none },
  { dst := some 11, op := Go.Op.load 28 (Go.Operand.tmp 2), type := 28, pos := "law.go:99", after := #[{ on := 5, ground := Go.Ground.guard }], guard := some (5, true) },
  { dst := some 12, op := Go.Op.call { callee := Go.Callee.value (Go.Operand.func 38), args := #[Go.Operand.tmp 11], argTypes := #[28] }, type := 3, pos := "law.go:99", after := #[{ on := 6, ground := Go.Ground.data }, { on := 5, ground := Go.Ground.chain }, { on := 5, ground := Go.Ground.guard }], guard := some (5, true) },
  { dst := some 13, op := Go.Op.load 28 (Go.Operand.tmp 2), type := 28, pos := "law.go:99", after := #[{ on := 5, ground := Go.Ground.guard }], guard := some (5, true) },
  { dst := some 14, op := Go.Op.call { callee := Go.Callee.value (Go.Operand.func 40), args := #[Go.Operand.tmp 13], argTypes := #[28] }, type := 3, pos := "law.go:99", after := #[{ on := 8, ground := Go.Ground.data }, { on := 7, ground := Go.Ground.chain }, { on := 5, ground := Go.Ground.guard }], guard := some (5, true) },
  { dst := some 15, op := Go.Op.binOp Go.BinOp.eql 3 (Go.Operand.tmp 12) (Go.Operand.tmp 14) 3, type := 4, pos := "law.go:99", after := #[{ on := 7, ground := Go.Ground.data }, { on := 9, ground := Go.Ground.data }, { on := 5, ground := Go.Ground.guard }], guard := some (5, true) },
  { dst := some 16, op := Go.Op.pick (Go.Operand.tmp 10) (Go.Operand.tmp 15) (Go.Operand.const (Go.Value.bool false)), type := 4, pos := "law.go:99", after := #[{ on := 5, ground := Go.Ground.data }, { on := 10, ground := Go.Ground.data }], guard := none },
  { dst := some 17, op := Go.Op.move (Go.Operand.tmp 16), type := 4, pos := "law.go:99", after := #[{ on := 11, ground := Go.Ground.data }, { on := 9, ground := Go.Ground.chain }], guard := none },
  { dst := some 18, op := Go.Op.load 28 (Go.Operand.tmp 2), type := 28, pos := "law.go:99", after := #[{ on := 12, ground := Go.Ground.guard }], guard := some (12, true) },
  { dst := some 19, op := Go.Op.call { callee := Go.Callee.value (Go.Operand.func 37), args := #[Go.Operand.tmp 18], argTypes := #[28] }, type := 3, pos := "law.go:99", after := #[{ on := 13, ground := Go.Ground.data }, { on := 12, ground := Go.Ground.chain }, { on := 12, ground := Go.Ground.guard }], guard := some (12, true) },
  { dst := some 20, op := Go.Op.load 28 (Go.Operand.tmp 2), type := 28, pos := "law.go:99", after := #[{ on := 12, ground := Go.Ground.guard }], guard := some (12, true) },
  { dst := some 21, op := Go.Op.call { callee := Go.Callee.value (Go.Operand.func 41), args := #[Go.Operand.tmp 20], argTypes := #[28] }, type := 3, pos := "law.go:99", after := #[{ on := 15, ground := Go.Ground.data }, { on := 14, ground := Go.Ground.chain }, { on := 12, ground := Go.Ground.guard }], guard := some (12, true) },
  { dst := some 22, op := Go.Op.binOp Go.BinOp.eql 3 (Go.Operand.tmp 19) (Go.Operand.tmp 21) 3, type := 4, pos := "law.go:99", after := #[{ on := 14, ground := Go.Ground.data }, { on := 16, ground := Go.Ground.data }, { on := 12, ground := Go.Ground.guard }], guard := some (12, true) },
  { dst := some 23, op := Go.Op.pick (Go.Operand.tmp 17) (Go.Operand.tmp 22) (Go.Operand.const (Go.Value.bool false)), type := 4, pos := "law.go:99", after := #[{ on := 12, ground := Go.Ground.data }, { on := 17, ground := Go.Ground.data }], guard := none },
  { dst := some 24, op := Go.Op.move (Go.Operand.tmp 23), type := 4, pos := "law.go:99", after := #[{ on := 18, ground := Go.Ground.data }, { on := 16, ground := Go.Ground.chain }], guard := none },
  { dst := some 25, op := Go.Op.load 28 (Go.Operand.tmp 2), type := 28, pos := "law.go:99", after := #[{ on := 19, ground := Go.Ground.guard }], guard := some (19, true) },
  { dst := some 26, op := Go.Op.move (Go.Operand.tmp 1), type := 9, pos := "law.go:99", after := #[{ on := 19, ground := Go.Ground.guard }], guard := some (19, true) },
  { dst := some 27, op := Go.Op.call { callee := Go.Callee.value (Go.Operand.func 42), args := #[Go.Operand.tmp 25, Go.Operand.tmp 26], argTypes := #[28, 9] }, type := 4, pos := "law.go:99", after := #[{ on := 20, ground := Go.Ground.data }, { on := 21, ground := Go.Ground.data }, { on := 19, ground := Go.Ground.chain }, { on := 19, ground := Go.Ground.guard }], guard := some (19, true) },
  { dst := some 28, op := Go.Op.load 28 (Go.Operand.tmp 2), type := 28, pos := "law.go:99", after := #[{ on := 19, ground := Go.Ground.guard }], guard := some (19, true) },
  { dst := some 29, op := Go.Op.move (Go.Operand.tmp 1), type := 9, pos := "law.go:99", after := #[{ on := 19, ground := Go.Ground.guard }], guard := some (19, true) },
  { dst := some 30, op := Go.Op.call { callee := Go.Callee.value (Go.Operand.func 43), args := #[Go.Operand.tmp 28, Go.Operand.tmp 29], argTypes := #[28, 9] }, type := 4, pos := "law.go:99", after := #[{ on := 23, ground := Go.Ground.data }, { on := 24, ground := Go.Ground.data }, { on := 22, ground := Go.Ground.chain }, { on := 19, ground := Go.Ground.guard }], guard := some (19, true) },
  { dst := some 31, op := Go.Op.binOp Go.BinOp.eql 4 (Go.Operand.tmp 27) (Go.Operand.tmp 30) 4, type := 4, pos := "law.go:99", after := #[{ on := 22, ground := Go.Ground.data }, { on := 25, ground := Go.Ground.data }, { on := 19, ground := Go.Ground.guard }], guard := some (19, true) },
  { dst := some 32, op := Go.Op.pick (Go.Operand.tmp 24) (Go.Operand.tmp 31) (Go.Operand.const (Go.Value.bool false)), type := 4, pos := "law.go:99", after := #[{ on := 19, ground := Go.Ground.data }, { on := 26, ground := Go.Ground.data }], guard := none },
  { dst := some 33, op := Go.Op.move (Go.Operand.tmp 32), type := 4, pos := "law.go:99", after := #[{ on := 27, ground := Go.Ground.data }, { on := 25, ground := Go.Ground.chain }], guard := none },
  { dst := some 34, op := Go.Op.call { callee := Go.Callee.value (Go.Operand.func 25), args := #[], argTypes := #[] }, type := 4, pos := "law.go:99", after := #[{ on := 28, ground := Go.Ground.chain }, { on := 28, ground := Go.Ground.guard }], guard := some (28, true) },
  { dst := some 35, op := Go.Op.pick (Go.Operand.tmp 33) (Go.Operand.tmp 34) (Go.Operand.const (Go.Value.bool false)), type := 4, pos := "law.go:99", after := #[{ on := 28, ground := Go.Ground.data }, { on := 29, ground := Go.Ground.data }], guard := none },
  { dst := some 4, op := Go.Op.assign (Go.Operand.tmp 35), type := 4, pos := "law.go:99", after := #[{ on := 30, ground := Go.Ground.data }, { on := 29, ground := Go.Ground.chain }, { on := 0, ground := Go.Ground.phase }, { on := 1, ground := Go.Ground.phase }, { on := 2, ground := Go.Ground.phase }, { on := 3, ground := Go.Ground.phase }, { on := 4, ground := Go.Ground.phase }, { on := 5, ground := Go.Ground.phase }, { on := 6, ground := Go.Ground.phase }, { on := 7, ground := Go.Ground.phase }, { on := 8, ground := Go.Ground.phase }, { on := 9, ground := Go.Ground.phase }, { on := 10, ground := Go.Ground.phase }, { on := 11, ground := Go.Ground.phase }, { on := 12, ground := Go.Ground.phase }, { on := 13, ground := Go.Ground.phase }, { on := 14, ground := Go.Ground.phase }, { on := 15, ground := Go.Ground.phase }, { on := 16, ground := Go.Ground.phase }, { on := 17, ground := Go.Ground.phase }, { on := 18, ground := Go.Ground.phase }, { on := 19, ground := Go.Ground.phase }, { on := 20, ground := Go.Ground.phase }, { on := 21, ground := Go.Ground.phase }, { on := 22, ground := Go.Ground.phase }, { on := 23, ground := Go.Ground.phase }, { on := 24, ground := Go.Ground.phase }, { on := 25, ground := Go.Ground.phase }, { on := 26, ground := Go.Ground.phase }, { on := 27, ground := Go.Ground.phase }, { on := 28, ground := Go.Ground.phase }, { on := 29, ground := Go.Ground.phase }, { on := 30, ground := Go.Ground.phase }], guard := none }]
def sz_F (w0 : World) (g : Nat) (p : Pl) (t : Tm) (nm : ByteArray) : Nat → (Nat → Value) → Value → World → (Nat → Prop) → Prop := fun rix => match rix with
  | 0 => fun _ v _ _ => v = tmV p t
  | 1 => fun _ v _ _ => v = .int .i64 (measP t).1
  | 2 => fun _ v _ _ => v = tmV p t
  | 3 => fun _ v _ _ => v = .int .i64 (measP t).1
  | 4 => fun _ v _ _ => v = .bool true
  | 5 => fun _ v _ _ => v = .bool true
  | 6 => fun _ v _ _ => v = tmV p t
  | 7 => fun _ v _ _ => v = .int .i64 (measP t).2
  | 8 => fun _ v _ _ => v = tmV p t
  | 9 => fun _ v _ _ => v = .int .i64 (measP t).2
  | 10 => fun _ v _ _ => v = .bool true
  | 11 => fun _ v _ _ => v = .bool true
  | 12 => fun _ v _ _ => v = .bool true
  | 13 => fun _ v _ _ => v = tmV p t
  | 14 => fun _ v _ _ => v = .int .i64 (LooseT t)
  | 15 => fun _ v _ _ => v = tmV p t
  | 16 => fun _ v _ _ => v = .int .i64 (LooseT t)
  | 17 => fun _ v _ _ => v = .bool true
  | 18 => fun _ v _ _ => v = .bool true
  | 19 => fun _ v _ _ => v = .bool true
  | 20 => fun _ v _ _ => v = tmV p t
  | 21 => fun _ v _ _ => v = .string nm
  | 22 => fun _ v _ _ => v = .bool (MentT nm t)
  | 23 => fun _ v _ _ => v = tmV p t
  | 24 => fun _ v _ _ => v = .string nm
  | 25 => fun _ v _ _ => v = .bool (MentT nm t)
  | 26 => fun _ v _ _ => v = .bool true
  | 27 => fun _ v _ _ => v = .bool true
  | 28 => fun _ v _ _ => v = .bool true
  | 29 => fun _ v _ _ => v = .bool true
  | 30 => fun _ v _ _ => v = .bool true
  | 31 => fun _ v _ _ => v = .bool true
  | _ => fun _ _ _ _ => True
def sz_C : Nat → List Nat := fun rix => match rix with
  | _ => []
theorem sz_nw1 : nwB sz_ops.toArray 1 = true := by kernel_rfl
theorem sz_nw2 : nwB sz_ops.toArray 2 = true := by kernel_rfl
set_option maxRecDepth 100000 in
set_option maxHeartbeats 8000000 in
theorem sz_obs (w0 : World) (g : Nat) (p : Pl) (t : Tm) (nm : ByteArray) (hx : w0.heap[g]? = some (tmO p t)) (hin : TmIn w0 w0.heap.size p t) (Q : Exit → Act → World → Prop) (a0 : Act) (hi1 : a0.tmps.getD 1 undef = .string nm) (hi2 : a0.tmps.getD 2 undef = .pointer (some ⟨g, 0, none⟩)) :
    ObsE Try.prog sz_ops.toArray Q (est2 0 0 (fun _ => False) (fun _ => False)) sz_C (sz_F w0 g p t nm) a0 w0 sz_ops.toArray.toList 0 := by
  have nw1 := sz_nw1
  have nw2 := sz_nw2
  refine ⟨?_, ?_, ?_, ?_, ?_, ?_, ?_, ?_, ?_, ?_, ?_, ?_, ?_, ?_, ?_, ?_, ?_, ?_, ?_, ?_, ?_, ?_, ?_, ?_, ?_, ?_, ?_, ?_, ?_, ?_, ?_, ?_, trivial⟩
  · refine ⟨⟨fun τ => stableE_det _, leans_not⟩, ?_⟩
    intro a w O hk
    have e2 : a.eval (.tmp 2) = .pointer (some ⟨g, 0, none⟩) := (hk.init 2 (initialB_of_nw nw2)).trans hi2
    have x1 := hk.world.still hx (fun ⟨_, h⟩ => h.elim And.right And.right)
    exact obE_loadRow rfl e2 x1 Try.underlying28 rfl (by kernel_rfl) (wanted_none rfl) rfl
  · refine ⟨⟨fun τ => stableE_det _, leans_not⟩, ?_⟩
    intro a w O hk
    have e5 : a.eval (.tmp 5) = tmV p t := hk.fact 0 _ 5 rfl rfl rfl rfl
    exact obE_callV #[tmV p t] rfl rfl rfl rfl (by simp only [List.map_cons, List.map_nil]; rw [e5]) (wanted_none rfl) ((size_calls t p w (TmS.all (TmIn.stay hin (hk.world.below (fun k ⟨_, h⟩ => h.elim (fun h => h.2.elim) fun h => h.2.elim) (Nat.le_refl _))))).mono fun e w' h => ⟨by rw [h.1], h.2⟩)
  · refine ⟨⟨fun τ => stableE_det _, leans_not⟩, ?_⟩
    intro a w O hk
    have e2 : a.eval (.tmp 2) = .pointer (some ⟨g, 0, none⟩) := (hk.init 2 (initialB_of_nw nw2)).trans hi2
    have x1 := hk.world.still hx (fun ⟨_, h⟩ => h.elim And.right And.right)
    exact obE_loadRow rfl e2 x1 Try.underlying28 rfl (by kernel_rfl) (wanted_none rfl) rfl
  · refine ⟨⟨fun τ => stableE_det _, leans_not⟩, ?_⟩
    intro a w O hk
    have e7 : a.eval (.tmp 7) = tmV p t := hk.fact 2 _ 7 rfl rfl rfl rfl
    exact obE_callV #[tmV p t] rfl rfl rfl rfl (by simp only [List.map_cons, List.map_nil]; rw [e7]) (wanted_none rfl) ((refSize_calls t p w (TmS.all (TmIn.stay hin (hk.world.below (fun k ⟨_, h⟩ => h.elim (fun h => h.2.elim) fun h => h.2.elim) (Nat.le_refl _))))).mono fun e w' h => ⟨by rw [h.1], h.2⟩)
  · refine ⟨⟨fun τ => stableE_det _, leans_not⟩, ?_⟩
    intro a w O hk
    have e6 : a.eval (.tmp 6) = .int .i64 (measP t).1 := hk.fact 1 _ 6 rfl rfl rfl rfl
    have e8 : a.eval (.tmp 8) = .int .i64 (measP t).1 := hk.fact 3 _ 8 rfl rfl rfl rfl
    exact toE (ob_eqlInt true rfl e6 e8 (by simp) (wanted_none rfl) rfl)
  · refine ⟨⟨fun τ => stableE_det _, leans_not⟩, ?_⟩
    intro a w O hk
    have e9 : a.eval (.tmp 9) = .bool true := hk.fact 4 _ 9 rfl rfl rfl rfl
    exact toE (ob_move rfl e9 (wanted_none rfl) rfl)
  · refine ⟨⟨fun τ => stableE_det _, leans_not⟩, ?_⟩
    intro a w O hk
    have e2 : a.eval (.tmp 2) = .pointer (some ⟨g, 0, none⟩) := (hk.init 2 (initialB_of_nw nw2)).trans hi2
    have e10 : a.eval (.tmp 10) = .bool true := hk.fact 5 _ 10 rfl rfl rfl rfl
    have x1 := hk.world.still hx (fun ⟨_, h⟩ => h.elim And.right And.right)
    exact obE_loadRow rfl e2 x1 Try.underlying28 rfl (by kernel_rfl) (wanted_of rfl rfl rfl e10) rfl
  · refine ⟨⟨fun τ => stableE_det _, leans_not⟩, ?_⟩
    intro a w O hk
    have e11 : a.eval (.tmp 11) = tmV p t := hk.fact 6 _ 11 rfl rfl rfl rfl
    have e10 : a.eval (.tmp 10) = .bool true := hk.fact 5 _ 10 rfl rfl rfl rfl
    exact obE_callV #[tmV p t] rfl rfl rfl rfl (by simp only [List.map_cons, List.map_nil]; rw [e11]) (wanted_of rfl rfl rfl e10) ((depth_calls t p w (TmS.all (TmIn.stay hin (hk.world.below (fun k ⟨_, h⟩ => h.elim (fun h => h.2.elim) fun h => h.2.elim) (Nat.le_refl _))))).mono fun e w' h => ⟨by rw [h.1], h.2⟩)
  · refine ⟨⟨fun τ => stableE_det _, leans_not⟩, ?_⟩
    intro a w O hk
    have e2 : a.eval (.tmp 2) = .pointer (some ⟨g, 0, none⟩) := (hk.init 2 (initialB_of_nw nw2)).trans hi2
    have e10 : a.eval (.tmp 10) = .bool true := hk.fact 5 _ 10 rfl rfl rfl rfl
    have x1 := hk.world.still hx (fun ⟨_, h⟩ => h.elim And.right And.right)
    exact obE_loadRow rfl e2 x1 Try.underlying28 rfl (by kernel_rfl) (wanted_of rfl rfl rfl e10) rfl
  · refine ⟨⟨fun τ => stableE_det _, leans_not⟩, ?_⟩
    intro a w O hk
    have e13 : a.eval (.tmp 13) = tmV p t := hk.fact 8 _ 13 rfl rfl rfl rfl
    have e10 : a.eval (.tmp 10) = .bool true := hk.fact 5 _ 10 rfl rfl rfl rfl
    exact obE_callV #[tmV p t] rfl rfl rfl rfl (by simp only [List.map_cons, List.map_nil]; rw [e13]) (wanted_of rfl rfl rfl e10) ((refDepth_calls t p w (TmS.all (TmIn.stay hin (hk.world.below (fun k ⟨_, h⟩ => h.elim (fun h => h.2.elim) fun h => h.2.elim) (Nat.le_refl _))))).mono fun e w' h => ⟨by rw [h.1, dep_meas], h.2⟩)
  · refine ⟨⟨fun τ => stableE_det _, leans_not⟩, ?_⟩
    intro a w O hk
    have e12 : a.eval (.tmp 12) = .int .i64 (measP t).2 := hk.fact 7 _ 12 rfl rfl rfl rfl
    have e14 : a.eval (.tmp 14) = .int .i64 (measP t).2 := hk.fact 9 _ 14 rfl rfl rfl rfl
    have e10 : a.eval (.tmp 10) = .bool true := hk.fact 5 _ 10 rfl rfl rfl rfl
    exact toE (ob_eqlInt true rfl e12 e14 (by simp) (wanted_of rfl rfl rfl e10) rfl)
  · refine ⟨⟨fun τ => stableE_det _, leans_not⟩, ?_⟩
    intro a w O hk
    have e10 : a.eval (.tmp 10) = .bool true := hk.fact 5 _ 10 rfl rfl rfl rfl
    have e15 : a.eval (.tmp 15) = .bool true := hk.fact 10 _ 15 rfl rfl rfl rfl
    exact toE (ob_pick rfl e10 e15 (wanted_none rfl) rfl)
  · refine ⟨⟨fun τ => stableE_det _, leans_not⟩, ?_⟩
    intro a w O hk
    have e16 : a.eval (.tmp 16) = .bool true := hk.fact 11 _ 16 rfl rfl rfl rfl
    exact toE (ob_move rfl e16 (wanted_none rfl) rfl)
  · refine ⟨⟨fun τ => stableE_det _, leans_not⟩, ?_⟩
    intro a w O hk
    have e2 : a.eval (.tmp 2) = .pointer (some ⟨g, 0, none⟩) := (hk.init 2 (initialB_of_nw nw2)).trans hi2
    have e17 : a.eval (.tmp 17) = .bool true := hk.fact 12 _ 17 rfl rfl rfl rfl
    have x1 := hk.world.still hx (fun ⟨_, h⟩ => h.elim And.right And.right)
    exact obE_loadRow rfl e2 x1 Try.underlying28 rfl (by kernel_rfl) (wanted_of rfl rfl rfl e17) rfl
  · refine ⟨⟨fun τ => stableE_det _, leans_not⟩, ?_⟩
    intro a w O hk
    have e18 : a.eval (.tmp 18) = tmV p t := hk.fact 13 _ 18 rfl rfl rfl rfl
    have e17 : a.eval (.tmp 17) = .bool true := hk.fact 12 _ 17 rfl rfl rfl rfl
    exact obE_callV #[tmV p t] rfl rfl rfl rfl (by simp only [List.map_cons, List.map_nil]; rw [e18]) (wanted_of rfl rfl rfl e17) ((loose_calls t p w (TmS.all (TmIn.stay hin (hk.world.below (fun k ⟨_, h⟩ => h.elim (fun h => h.2.elim) fun h => h.2.elim) (Nat.le_refl _))))).mono fun e w' h => ⟨by rw [h.1], h.2⟩)
  · refine ⟨⟨fun τ => stableE_det _, leans_not⟩, ?_⟩
    intro a w O hk
    have e2 : a.eval (.tmp 2) = .pointer (some ⟨g, 0, none⟩) := (hk.init 2 (initialB_of_nw nw2)).trans hi2
    have e17 : a.eval (.tmp 17) = .bool true := hk.fact 12 _ 17 rfl rfl rfl rfl
    have x1 := hk.world.still hx (fun ⟨_, h⟩ => h.elim And.right And.right)
    exact obE_loadRow rfl e2 x1 Try.underlying28 rfl (by kernel_rfl) (wanted_of rfl rfl rfl e17) rfl
  · refine ⟨⟨fun τ => stableE_det _, leans_not⟩, ?_⟩
    intro a w O hk
    have e20 : a.eval (.tmp 20) = tmV p t := hk.fact 15 _ 20 rfl rfl rfl rfl
    have e17 : a.eval (.tmp 17) = .bool true := hk.fact 12 _ 17 rfl rfl rfl rfl
    exact obE_callV #[tmV p t] rfl rfl rfl rfl (by simp only [List.map_cons, List.map_nil]; rw [e20]) (wanted_of rfl rfl rfl e17) ((refLoose_calls t p w (TmS.all (TmIn.stay hin (hk.world.below (fun k ⟨_, h⟩ => h.elim (fun h => h.2.elim) fun h => h.2.elim) (Nat.le_refl _))))).mono fun e w' h => ⟨by rw [h.1], h.2⟩)
  · refine ⟨⟨fun τ => stableE_det _, leans_not⟩, ?_⟩
    intro a w O hk
    have e19 : a.eval (.tmp 19) = .int .i64 (LooseT t) := hk.fact 14 _ 19 rfl rfl rfl rfl
    have e21 : a.eval (.tmp 21) = .int .i64 (LooseT t) := hk.fact 16 _ 21 rfl rfl rfl rfl
    have e17 : a.eval (.tmp 17) = .bool true := hk.fact 12 _ 17 rfl rfl rfl rfl
    exact toE (ob_eqlInt true rfl e19 e21 (by simp) (wanted_of rfl rfl rfl e17) rfl)
  · refine ⟨⟨fun τ => stableE_det _, leans_not⟩, ?_⟩
    intro a w O hk
    have e17 : a.eval (.tmp 17) = .bool true := hk.fact 12 _ 17 rfl rfl rfl rfl
    have e22 : a.eval (.tmp 22) = .bool true := hk.fact 17 _ 22 rfl rfl rfl rfl
    exact toE (ob_pick rfl e17 e22 (wanted_none rfl) rfl)
  · refine ⟨⟨fun τ => stableE_det _, leans_not⟩, ?_⟩
    intro a w O hk
    have e23 : a.eval (.tmp 23) = .bool true := hk.fact 18 _ 23 rfl rfl rfl rfl
    exact toE (ob_move rfl e23 (wanted_none rfl) rfl)
  · refine ⟨⟨fun τ => stableE_det _, leans_not⟩, ?_⟩
    intro a w O hk
    have e2 : a.eval (.tmp 2) = .pointer (some ⟨g, 0, none⟩) := (hk.init 2 (initialB_of_nw nw2)).trans hi2
    have e24 : a.eval (.tmp 24) = .bool true := hk.fact 19 _ 24 rfl rfl rfl rfl
    have x1 := hk.world.still hx (fun ⟨_, h⟩ => h.elim And.right And.right)
    exact obE_loadRow rfl e2 x1 Try.underlying28 rfl (by kernel_rfl) (wanted_of rfl rfl rfl e24) rfl
  · refine ⟨⟨fun τ => stableE_det _, leans_not⟩, ?_⟩
    intro a w O hk
    have e1 : a.eval (.tmp 1) = .string nm := (hk.init 1 (initialB_of_nw nw1)).trans hi1
    have e24 : a.eval (.tmp 24) = .bool true := hk.fact 19 _ 24 rfl rfl rfl rfl
    exact toE (ob_move rfl e1 (wanted_of rfl rfl rfl e24) rfl)
  · refine ⟨⟨fun τ => stableE_det _, leans_not⟩, ?_⟩
    intro a w O hk
    have e25 : a.eval (.tmp 25) = tmV p t := hk.fact 20 _ 25 rfl rfl rfl rfl
    have e26 : a.eval (.tmp 26) = .string nm := hk.fact 21 _ 26 rfl rfl rfl rfl
    have e24 : a.eval (.tmp 24) = .bool true := hk.fact 19 _ 24 rfl rfl rfl rfl
    exact obE_callV #[tmV p t, .string nm] rfl rfl rfl rfl (by simp only [List.map_cons, List.map_nil]; rw [e25, e26]) (wanted_of rfl rfl rfl e24) (mentions_calls t p nm w (TmS.all (TmIn.stay hin (hk.world.below (fun k ⟨_, h⟩ => h.elim (fun h => h.2.elim) fun h => h.2.elim) (Nat.le_refl _)))))
  · refine ⟨⟨fun τ => stableE_det _, leans_not⟩, ?_⟩
    intro a w O hk
    have e2 : a.eval (.tmp 2) = .pointer (some ⟨g, 0, none⟩) := (hk.init 2 (initialB_of_nw nw2)).trans hi2
    have e24 : a.eval (.tmp 24) = .bool true := hk.fact 19 _ 24 rfl rfl rfl rfl
    have x1 := hk.world.still hx (fun ⟨_, h⟩ => h.elim And.right And.right)
    exact obE_loadRow rfl e2 x1 Try.underlying28 rfl (by kernel_rfl) (wanted_of rfl rfl rfl e24) rfl
  · refine ⟨⟨fun τ => stableE_det _, leans_not⟩, ?_⟩
    intro a w O hk
    have e1 : a.eval (.tmp 1) = .string nm := (hk.init 1 (initialB_of_nw nw1)).trans hi1
    have e24 : a.eval (.tmp 24) = .bool true := hk.fact 19 _ 24 rfl rfl rfl rfl
    exact toE (ob_move rfl e1 (wanted_of rfl rfl rfl e24) rfl)
  · refine ⟨⟨fun τ => stableE_det _, leans_not⟩, ?_⟩
    intro a w O hk
    have e28 : a.eval (.tmp 28) = tmV p t := hk.fact 23 _ 28 rfl rfl rfl rfl
    have e29 : a.eval (.tmp 29) = .string nm := hk.fact 24 _ 29 rfl rfl rfl rfl
    have e24 : a.eval (.tmp 24) = .bool true := hk.fact 19 _ 24 rfl rfl rfl rfl
    exact obE_callV #[tmV p t, .string nm] rfl rfl rfl rfl (by simp only [List.map_cons, List.map_nil]; rw [e28, e29]) (wanted_of rfl rfl rfl e24) (refMentions_calls t p nm w (TmS.all (TmIn.stay hin (hk.world.below (fun k ⟨_, h⟩ => h.elim (fun h => h.2.elim) fun h => h.2.elim) (Nat.le_refl _)))))
  · refine ⟨⟨fun τ => stableE_det _, leans_not⟩, ?_⟩
    intro a w O hk
    have e27 : a.eval (.tmp 27) = .bool (MentT nm t) := hk.fact 22 _ 27 rfl rfl rfl rfl
    have e30 : a.eval (.tmp 30) = .bool (MentT nm t) := hk.fact 25 _ 30 rfl rfl rfl rfl
    have e24 : a.eval (.tmp 24) = .bool true := hk.fact 19 _ 24 rfl rfl rfl rfl
    exact toE (ob_eqlBool true rfl e27 e30 Try.underlying4 (by simp) (wanted_of rfl rfl rfl e24) rfl)
  · refine ⟨⟨fun τ => stableE_det _, leans_not⟩, ?_⟩
    intro a w O hk
    have e24 : a.eval (.tmp 24) = .bool true := hk.fact 19 _ 24 rfl rfl rfl rfl
    have e31 : a.eval (.tmp 31) = .bool true := hk.fact 26 _ 31 rfl rfl rfl rfl
    exact toE (ob_pick rfl e24 e31 (wanted_none rfl) rfl)
  · refine ⟨⟨fun τ => stableE_det _, leans_not⟩, ?_⟩
    intro a w O hk
    have e32 : a.eval (.tmp 32) = .bool true := hk.fact 27 _ 32 rfl rfl rfl rfl
    exact toE (ob_move rfl e32 (wanted_none rfl) rfl)
  · refine ⟨⟨fun τ => stableE_det _, leans_not⟩, ?_⟩
    intro a w O hk
    have e33 : a.eval (.tmp 33) = .bool true := hk.fact 28 _ 33 rfl rfl rfl rfl
    exact obE_callV #[] rfl rfl rfl rfl rfl (wanted_of rfl rfl rfl e33) (awake_calls w)
  · refine ⟨⟨fun τ => stableE_det _, leans_not⟩, ?_⟩
    intro a w O hk
    have e33 : a.eval (.tmp 33) = .bool true := hk.fact 28 _ 33 rfl rfl rfl rfl
    have e34 : a.eval (.tmp 34) = .bool true := hk.fact 29 _ 34 rfl rfl rfl rfl
    exact toE (ob_pick rfl e33 e34 (wanted_none rfl) rfl)
  · refine ⟨⟨fun τ => stableE_det _, leans_not⟩, ?_⟩
    intro a w O hk
    have e35 : a.eval (.tmp 35) = .bool true := hk.fact 30 _ 35 rfl rfl rfl rfl
    exact toE (ob_assign rfl e35 (wanted_none rfl) rfl)
set_option maxRecDepth 100000 in
set_option maxHeartbeats 8000000 in
theorem sz_region {Q : Exit → Act → World → Prop} {id : Nat} (w0 : World) (g : Nat) (p : Pl) (t : Tm) (nm : ByteArray) {s0 s3 s4 s5 s6 s7 s8 s9 s10 s11 s12 s13 s14 s15 s16 s17 s18 s19 s20 s21 s22 s23 s24 s25 s26 s27 s28 s29 s30 s31 s32 s33 s34 s35 : Value} (hx : w0.heap[g]? = some (tmO p t)) (hin : TmIn w0 w0.heap.size p t)
    (hend : ∀ (w' : World), Chg (fun k => False ∨ False) w0 w' → Q .normal { tmps := (s0 :: (.string nm : Value) :: (.pointer (some ⟨g, 0, none⟩) : Value) :: s3 :: (.bool true : Value) :: (tmV p t : Value) :: (.int .i64 (measP t).1 : Value) :: (tmV p t : Value) :: (.int .i64 (measP t).1 : Value) :: (.bool true : Value) :: (.bool true : Value) :: (tmV p t : Value) :: (.int .i64 (measP t).2 : Value) :: (tmV p t : Value) :: (.int .i64 (measP t).2 : Value) :: (.bool true : Value) :: (.bool true : Value) :: (.bool true : Value) :: (tmV p t : Value) :: (.int .i64 (LooseT t) : Value) :: (tmV p t : Value) :: (.int .i64 (LooseT t) : Value) :: (.bool true : Value) :: (.bool true : Value) :: (.bool true : Value) :: (tmV p t : Value) :: (.string nm : Value) :: (.bool (MentT nm t) : Value) :: (tmV p t : Value) :: (.string nm : Value) :: (.bool (MentT nm t) : Value) :: (.bool true : Value) :: (.bool true : Value) :: (.bool true : Value) :: (.bool true : Value) :: (.bool true : Value) :: ([] : List Value)).toArray, defers := [] } w') :
    (Code.region id sz_ops.toArray true).wp Try.prog Q { tmps := (s0 :: (.string nm : Value) :: (.pointer (some ⟨g, 0, none⟩) : Value) :: s3 :: s4 :: s5 :: s6 :: s7 :: s8 :: s9 :: s10 :: s11 :: s12 :: s13 :: s14 :: s15 :: s16 :: s17 :: s18 :: s19 :: s20 :: s21 :: s22 :: s23 :: s24 :: s25 :: s26 :: s27 :: s28 :: s29 :: s30 :: s31 :: s32 :: s33 :: s34 :: s35 :: ([] : List Value)).toArray, defers := [] } w0 := by
  refine wp_region_est (by kernel_rfl) (est2 0 0 (fun _ => False) (fun _ => False)) sz_C (sz_F w0 g p t nm) (est2_dis (fun _ h _ => h)) (est2_range (fun _ h => h.elim) (fun _ h => h.elim)) (by rfl) (by kernel_rfl) (sz_obs w0.drew g p t nm hx (TmS.same hin (fun _ _ _ => rfl)) _ _ rfl rfl) ?_
  intro a w' O hd hs hb hf hf2 ha hsame
  have hx : ∀ (qi : Nat) (qv : Value), nwB sz_ops.toArray qi = true → (s0 :: (.string nm : Value) :: (.pointer (some ⟨g, 0, none⟩) : Value) :: s3 :: s4 :: s5 :: s6 :: s7 :: s8 :: s9 :: s10 :: s11 :: s12 :: s13 :: s14 :: s15 :: s16 :: s17 :: s18 :: s19 :: s20 :: s21 :: s22 :: s23 :: s24 :: s25 :: s26 :: s27 :: s28 :: s29 :: s30 :: s31 :: s32 :: s33 :: s34 :: s35 :: ([] : List Value)).toArray.getD qi undef = qv → a.tmps.getD qi undef = qv := fun qi qv h e => (hsame qi (nwB.spec h)).trans e
  have x0 := hx 0 s0 (by kernel_rfl) rfl
  have x1 := hx 1 (.string nm) (by kernel_rfl) rfl
  have x2 := hx 2 (.pointer (some ⟨g, 0, none⟩)) (by kernel_rfl) rfl
  have x3 := hx 3 s3 (by kernel_rfl) rfl
  have x4 : a.tmps.getD 4 undef = .bool true := (hf 31 _ 4 rfl rfl (by decide)).1
  have x5 : a.tmps.getD 5 undef = tmV p t := (hf 0 _ 5 rfl rfl (by decide)).1
  have x6 : a.tmps.getD 6 undef = .int .i64 (measP t).1 := (hf 1 _ 6 rfl rfl (by decide)).1
  have x7 : a.tmps.getD 7 undef = tmV p t := (hf 2 _ 7 rfl rfl (by decide)).1
  have x8 : a.tmps.getD 8 undef = .int .i64 (measP t).1 := (hf 3 _ 8 rfl rfl (by decide)).1
  have x9 : a.tmps.getD 9 undef = .bool true := (hf 4 _ 9 rfl rfl (by decide)).1
  have x10 : a.tmps.getD 10 undef = .bool true := (hf 5 _ 10 rfl rfl (by decide)).1
  have x11 : a.tmps.getD 11 undef = tmV p t := (hf 6 _ 11 rfl rfl (by decide)).1
  have x12 : a.tmps.getD 12 undef = .int .i64 (measP t).2 := (hf 7 _ 12 rfl rfl (by decide)).1
  have x13 : a.tmps.getD 13 undef = tmV p t := (hf 8 _ 13 rfl rfl (by decide)).1
  have x14 : a.tmps.getD 14 undef = .int .i64 (measP t).2 := (hf 9 _ 14 rfl rfl (by decide)).1
  have x15 : a.tmps.getD 15 undef = .bool true := (hf 10 _ 15 rfl rfl (by decide)).1
  have x16 : a.tmps.getD 16 undef = .bool true := (hf 11 _ 16 rfl rfl (by decide)).1
  have x17 : a.tmps.getD 17 undef = .bool true := (hf 12 _ 17 rfl rfl (by decide)).1
  have x18 : a.tmps.getD 18 undef = tmV p t := (hf 13 _ 18 rfl rfl (by decide)).1
  have x19 : a.tmps.getD 19 undef = .int .i64 (LooseT t) := (hf 14 _ 19 rfl rfl (by decide)).1
  have x20 : a.tmps.getD 20 undef = tmV p t := (hf 15 _ 20 rfl rfl (by decide)).1
  have x21 : a.tmps.getD 21 undef = .int .i64 (LooseT t) := (hf 16 _ 21 rfl rfl (by decide)).1
  have x22 : a.tmps.getD 22 undef = .bool true := (hf 17 _ 22 rfl rfl (by decide)).1
  have x23 : a.tmps.getD 23 undef = .bool true := (hf 18 _ 23 rfl rfl (by decide)).1
  have x24 : a.tmps.getD 24 undef = .bool true := (hf 19 _ 24 rfl rfl (by decide)).1
  have x25 : a.tmps.getD 25 undef = tmV p t := (hf 20 _ 25 rfl rfl (by decide)).1
  have x26 : a.tmps.getD 26 undef = .string nm := (hf 21 _ 26 rfl rfl (by decide)).1
  have x27 : a.tmps.getD 27 undef = .bool (MentT nm t) := (hf 22 _ 27 rfl rfl (by decide)).1
  have x28 : a.tmps.getD 28 undef = tmV p t := (hf 23 _ 28 rfl rfl (by decide)).1
  have x29 : a.tmps.getD 29 undef = .string nm := (hf 24 _ 29 rfl rfl (by decide)).1
  have x30 : a.tmps.getD 30 undef = .bool (MentT nm t) := (hf 25 _ 30 rfl rfl (by decide)).1
  have x31 : a.tmps.getD 31 undef = .bool true := (hf 26 _ 31 rfl rfl (by decide)).1
  have x32 : a.tmps.getD 32 undef = .bool true := (hf 27 _ 32 rfl rfl (by decide)).1
  have x33 : a.tmps.getD 33 undef = .bool true := (hf 28 _ 33 rfl rfl (by decide)).1
  have x34 : a.tmps.getD 34 undef = .bool true := (hf 29 _ 34 rfl rfl (by decide)).1
  have x35 : a.tmps.getD 35 undef = .bool true := (hf 30 _ 35 rfl rfl (by decide)).1
  have hl : a.tmps = (s0 :: (.string nm : Value) :: (.pointer (some ⟨g, 0, none⟩) : Value) :: s3 :: (.bool true : Value) :: (tmV p t : Value) :: (.int .i64 (measP t).1 : Value) :: (tmV p t : Value) :: (.int .i64 (measP t).1 : Value) :: (.bool true : Value) :: (.bool true : Value) :: (tmV p t : Value) :: (.int .i64 (measP t).2 : Value) :: (tmV p t : Value) :: (.int .i64 (measP t).2 : Value) :: (.bool true : Value) :: (.bool true : Value) :: (.bool true : Value) :: (tmV p t : Value) :: (.int .i64 (LooseT t) : Value) :: (tmV p t : Value) :: (.int .i64 (LooseT t) : Value) :: (.bool true : Value) :: (.bool true : Value) :: (.bool true : Value) :: (tmV p t : Value) :: (.string nm : Value) :: (.bool (MentT nm t) : Value) :: (tmV p t : Value) :: (.string nm : Value) :: (.bool (MentT nm t) : Value) :: (.bool true : Value) :: (.bool true : Value) :: (.bool true : Value) :: (.bool true : Value) :: (.bool true : Value) :: ([] : List Value)).toArray := by
    have h := lit a.tmps 36 hs
    have e : ((List.range 36).map (fun i => a.tmps.getD i undef)).toArray = ((a.tmps.getD 0 undef : Value) :: (a.tmps.getD 1 undef : Value) :: (a.tmps.getD 2 undef : Value) :: (a.tmps.getD 3 undef : Value) :: (a.tmps.getD 4 undef : Value) :: (a.tmps.getD 5 undef : Value) :: (a.tmps.getD 6 undef : Value) :: (a.tmps.getD 7 undef : Value) :: (a.tmps.getD 8 undef : Value) :: (a.tmps.getD 9 undef : Value) :: (a.tmps.getD 10 undef : Value) :: (a.tmps.getD 11 undef : Value) :: (a.tmps.getD 12 undef : Value) :: (a.tmps.getD 13 undef : Value) :: (a.tmps.getD 14 undef : Value) :: (a.tmps.getD 15 undef : Value) :: (a.tmps.getD 16 undef : Value) :: (a.tmps.getD 17 undef : Value) :: (a.tmps.getD 18 undef : Value) :: (a.tmps.getD 19 undef : Value) :: (a.tmps.getD 20 undef : Value) :: (a.tmps.getD 21 undef : Value) :: (a.tmps.getD 22 undef : Value) :: (a.tmps.getD 23 undef : Value) :: (a.tmps.getD 24 undef : Value) :: (a.tmps.getD 25 undef : Value) :: (a.tmps.getD 26 undef : Value) :: (a.tmps.getD 27 undef : Value) :: (a.tmps.getD 28 undef : Value) :: (a.tmps.getD 29 undef : Value) :: (a.tmps.getD 30 undef : Value) :: (a.tmps.getD 31 undef : Value) :: (a.tmps.getD 32 undef : Value) :: (a.tmps.getD 33 undef : Value) :: (a.tmps.getD 34 undef : Value) :: (a.tmps.getD 35 undef : Value) :: ([] : List Value)).toArray := rfl
    rw [e, x0, x1, x2, x3, x4, x5, x6, x7, x8, x9, x10, x11, x12, x13, x14, x15, x16, x17, x18, x19, x20, x21, x22, x23, x24, x25, x26, x27, x28, x29, x30, x31, x32, x33, x34, x35] at h
    exact h
  obtain ⟨tmps, defers⟩ := a
  obtain rfl : defers = [] := hd
  have hl' : tmps = _ := hl
  rw [hl']
  have hb' := est2_chg hb
  exact hend w' ⟨hb'.os, hb'.tape, hb'.output, hb'.size, hb'.block⟩

set_option maxRecDepth 100000 in
set_option maxHeartbeats 8000000 in
theorem termSizes_calls (t : Tm) (p : Pl) (nm : ByteArray) (w : World) (hin : TmIn w w.heap.size p t) :
    Calls Try.prog 6 #[tmV p t, .string nm] w fun e w' => e = .returned (.bool true) ∧ Below w.heap.size w w' := by
  have HIN := Aside0.mk hin
  obtain ⟨W, hW⟩ : ∃ W, W = w.alloc (tmO p t) := ⟨_, rfl⟩
  have hb : Below w.heap.size w W := by rw [hW]; exact below_alloc (Below.refl _ _) _
  have HX := Aside0.mk (show W.heap[w.heap.size]? = some (tmO p t) by rw [hW]; exact blk_new _ _)
  have HB := Aside0.mk hb
  clear hin hb
  unfold tmV
  unfold tmO at hW
  go_enter Try.func6, Try.ntmps6
  go_upto_region 1 with (fail)
  rw [← hW]
  clear hW
  refine sz_region W w.heap.size p t nm HX.out (TmS.all (TmIn.stay HIN.out HB.out)) ?_
  intro w9 hch
  have HBN := Aside0.mk (below_then HB.out HB.out.size (hch.below (fun _ h => h.elim False.elim False.elim) (Nat.le_refl _)))
  clear hch
  go_wp2
  go_ret
  exact ⟨rfl, HBN.out⟩

end Go.Proofs.Ytdboloabpjmgaaa
