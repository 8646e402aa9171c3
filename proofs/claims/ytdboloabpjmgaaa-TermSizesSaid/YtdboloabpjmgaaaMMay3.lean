/-
  Merged: Apps, TAwk, FoMa, May, LvM, Nf, LvR, LvRS, MayR, RefMay, TName, TMay, TMayC, TMayR, RMay, TMyR, LawTM, LvIn, LvsIn, TmInT.
-/
import Derived.Deep.Slices
import Derived.ChangeArms
import Derived.Test.YtdboloabpjmgaaaMMay2
/-! Apps -/
namespace Go.Proofs.Ytdboloabpjmgaaa
open Go.RowKit Go.Proofs.YtdboloabpjmgaaaW.PrintWords Go.RegionInvYtdboloabpjmgaaa Go.RegionEYtdboloabpjmgaaa

/-- Two terms in a row of their own. -/
theorem TmS.pair {w : World} {S : Nat → Prop} {g : Nat} {pa pu : Pl} {a u : Tm} (h : w.heap[g]? = some (.cells (tmC pa a ++ tmC pu u).toArray 28 (0, 0))) (hg : S g) (ha : TmS w S pa a) (hu : TmS w S pu u) (kk : Int) :
    TmS w S ⟨none, 0, none, 0, some ⟨g, 0, none⟩, 2⟩ (.mk kk 0 noName lv0 [] [a, u]) := by
  have hr := lam_row (g0 := w.heap.size) h (TmS.all ha) (TmS.all hu)
  refine .mk (fun i => if i = 0 then pa else pu) (LvS.leaf _ _ _ _) (LvS.leaf _ _ _ _) (Nat.le_refl _) (show (2 : Nat) ≤ 9223372036854775807 by decide) ⟨by decide, by decide, by simp⟩ (fun i x hx => ?_) (fun i x hx => ?_)
  · obtain ⟨b, o, e, -, hc⟩ := (hr i x hx).1
    have e2 := e
    injection e2 with e2
    injection e2 with e2
    subst e2
    exact ⟨g, o, e, hg, hc⟩
  · by_cases h0 : i = 0
    · subst h0
      obtain rfl : a = x := by simpa using hx
      exact ha
    · by_cases h1 : i = 1
      · subst h1
        obtain rfl : u = x := by simpa using hx
        exact hu
      · exfalso
        have := (List.getElem?_eq_some_iff.1 hx).1
        simp only [List.length_cons, List.length_nil] at this
        omega
def appT (f x : Tm) : Tm := .mk 6 0 noName lv0 [] [f, x]
/-- f, put to one after the other. -/
def appsP (f : Tm) (xs : List Tm) : Tm := xs.foldl appT f
theorem appsP_snoc (f : Tm) (xs : List Tm) (x : Tm) : appsP f (xs ++ [x]) = appT (appsP f xs) x := by unfold appsP; rw [List.foldl_append]; rfl
def AppsT (f : Tm) (xs : List Tm) : Tm := if okT (appsP f xs) then ownT (appsP f xs) else zeroT
theorem AppsT_ok {f : Tm} {xs : List Tm} (h : okT (appsP f xs)) : AppsT f xs = ownT (appsP f xs) := if_pos h
theorem AppsT_no {f : Tm} {xs : List Tm} (h : ¬ okT (appsP f xs)) : AppsT f xs = zeroT := if_neg h
set_option maxRecDepth 100000 in
set_option maxHeartbeats 4000000 in
theorem Apps_calls (g0 : Nat) (f : Tm) (pf : Pl) (L : Option Addr) (n c : Nat) (q : Nat → Pl) (xs : List Tm) (w : World) (hg0 : g0 ≤ w.heap.size) (hn : n = xs.length) (hn9 : n ≤ 140737488355328) (hf : TmIn w g0 pf f) (hin : TmsAt w g0 L q xs) :
    Calls Try.prog 16 #[tmV pf f, .slice L n c] w (TmGot w (fun k => k < g0) (AppsT f xs)) := by
  have HIN := Aside0.mk hin
  have HN := Aside0.mk hn
  obtain ⟨W, hW⟩ : ∃ W, W = (w.alloc (tmO pf f)).alloc (outK 0 (.slice none 0 0)) := ⟨_, rfl⟩
  have HB := Aside0.mk (show Below w.heap.size w W by rw [hW]; exact below_alloc (below_alloc (Below.refl _ _) _) _)
  have HO := Aside0.mk (show W.heap[w.heap.size]? = some (tmO pf f) by rw [hW]; exact box0 w _ _)
  have HX := Aside0.mk (show W.heap[w.heap.size + 1]? = some (outK 0 (.slice none 0 0)) by rw [hW]; exact box1 w _ _)
  have HZ := Aside0.mk (show W.heap.size = w.heap.size + 1 + 1 by rw [hW]; simp)
  have HF := Aside0.mk (show TmS W (fun k => k < g0 ∨ w.heap.size + 1 + 1 ≤ k) pf f from TmS.mono (TmIn.stay hf (HB.out.mono hg0)) fun k h _ => .inl h)
  obtain ⟨y, hy⟩ : ∃ y, y = AppsT f xs := ⟨_, rfl⟩
  have HY := Aside0.mk hy
  rw [← hy]
  clear hin hn hy hf
  unfold tmV
  unfold tmO at hW
  go_enter Try.func16, Try.ntmps16
  go_upto_region 1 with (fail)
  rw [← hW]
  clear hW
  go_wp2
  go_loopw [9] (fun i wr => ∃ (k : Nat) (p : Pl), i = .int .i64 k ∧ k ≤ n ∧ Aside0 (wr.heap[w.heap.size]? = some (tmO p (appsP f (xs.take k)))) ∧ Aside0 (wr.heap[w.heap.size + 1]? = some (outK 0 (.slice none 0 0))) ∧ Aside0 (TmS wr (fun k => k < g0 ∨ w.heap.size + 1 + 1 ≤ k) p (appsP f (xs.take k))) ∧ Aside0 (Below w.heap.size w wr) ∧ w.heap.size + 1 + 1 ≤ wr.heap.size) (fun i _ => n - (intOf i).toNat)
  case atStart => exact ⟨0, pf, rfl, Nat.zero_le _, HO, HX, HF, HB, by have := HZ.out; omega⟩
  case round =>
    clear HB HX HO HF HZ
    obtain ⟨k, p, rfl, hk, HO, HX, HF, HB, hzw⟩ := hrel
    by_cases hlt : k < n
    · have hlt2 : k < xs.length := by rw [← HN.out]; exact hlt
      obtain ⟨x, hx⟩ : ∃ x, xs[k]? = some x := ⟨_, List.getElem?_eq_getElem hlt2⟩
      have HTK := Aside0.mk (show appsP f (xs.take (k + 1)) = appT (appsP f (xs.take k)) x by rw [List.take_add_one, hx, ← appsP_snoc]; rfl)
      obtain ⟨z, hz⟩ : ∃ z, z = appsP f (xs.take k) := ⟨_, rfl⟩
      rw [← hz] at HTK HO HF
      obtain ⟨⟨bk, oo, hL, hSb, hcells⟩, hxin⟩ := HIN.out k x hx
      have hbk : ∀ j v, (tmC (q k) x)[j]? = some v → wr.cell? ⟨bk, oo + k * 8 + j, none⟩ = some v := fun j v hv => (cell_same (HB.out.block bk hSb)).trans (hcells j v hv)
      have d0 := hbk 0 _ rfl
      have d1 := hbk 1 _ rfl
      have d2 := hbk 2 _ rfl
      have d3 := hbk 3 _ rfl
      have d4 := hbk 4 _ rfl
      have d5 := hbk 5 _ rfl
      have d6 := hbk 6 _ rfl
      have d7 := hbk 7 _ rfl
      rw [Nat.add_zero] at d0
      have HLL := Aside0.mk hL
      have HXIN := Aside0.mk (TmIn.stay hxin (HB.out.mono hg0))
      rw [hL]
      clear hL hcells hbk hx hlt2 hxin hz
      go_upto_region 4 with (fail)
      obtain ⟨W5, hW5⟩ : ∃ W5, W5 = wr.alloc (tmO (q k) x) := ⟨_, rfl⟩
      have hB5 : Below wr.heap.size wr W5 := by rw [hW5]; exact below_alloc (Below.refl _ _) _
      have HBX5 := Aside0.mk (show W5.heap[wr.heap.size]? = some (tmO (q k) x) by rw [hW5]; exact blk_new _ _)
      have HO5 := Aside0.mk ((hB5.block _ (by omega)).trans HO.out)
      have HX5 := Aside0.mk ((hB5.block _ (by omega)).trans HX.out)
      have HIN5 := Aside0.mk (TmIn.stay HXIN.out (hB5.mono (by omega)))
      have HF5 := Aside0.mk (HF.out.later hB5)
      have HBW5 := Aside0.mk (below_then HB.out HB.out.size hB5)
      have hz5 : wr.heap.size < W5.heap.size := blk_lt HBX5.out
      clear hB5
      unfold tmO at hW5
      rw [← hW5]
      clear hW5 HO HX HF d0 d1 d2 d3 d4 d5 d6 d7
      obtain ⟨o0, o1, o2, o3, o4, o5, o6, o7, f0, f1, f2, f3, f4, f5, f6, f7⟩ := row8c HO5.out
      obtain ⟨b0, b1, b2, b3, b4, b5, b6, b7⟩ := row8 HBX5.out
      have hzw5 : w.heap.size < W5.heap.size := by omega
      go_wp2
      go_roundw
      case rel =>
        clear o0 o1 o2 o3 o4 o5 o6 o7 f0 f1 f2 f3 f4 f5 f6 f7 b0 b1 b2 b3 b4 b5 b6 b7
        have hch := chg_set8 W5 (w.heap.size) (.int .i64 6) (.int .i64 0) (.string ⟨#[]⟩) (.int .i64 0) (.int .i64 0) (.slice none 0 0) (.slice none 0 0) (.slice (some ⟨W5.heap.size, 0, none⟩) 2 2)
        have hs8 := set8 (a0 := .int .i64 6) (a1 := .int .i64 0) (a2 := .string ⟨#[]⟩) (a3 := .int .i64 0) (a4 := .int .i64 0) (a5 := .slice none 0 0) (a6 := .slice none 0 0) (a7 := .slice (some ⟨W5.heap.size, 0, none⟩) 2 2) HO5.out
        obtain ⟨WS, hWS⟩ : ∃ WS, WS = ((((((((W5.setCell ⟨w.heap.size, 0, none⟩ (.int .i64 6)).setCell ⟨w.heap.size, 1, none⟩ (.int .i64 0)).setCell ⟨w.heap.size, 2, none⟩ (.string ⟨#[]⟩)).setCell ⟨w.heap.size, 3, none⟩ (.int .i64 0)).setCell ⟨w.heap.size, 4, none⟩ (.int .i64 0)).setCell ⟨w.heap.size, 5, none⟩ (.slice none 0 0)).setCell ⟨w.heap.size, 6, none⟩ (.slice none 0 0)).setCell ⟨w.heap.size, 7, none⟩ (.slice (some ⟨W5.heap.size, 0, none⟩) 2 2)) := ⟨_, rfl⟩
        have hsz : WS.heap.size = W5.heap.size := by rw [hWS]; simp
        rw [← hWS] at hch hs8 ⊢
        clear hWS
        obtain ⟨W9, hW9⟩ : ∃ W9, W9 = WS.alloc (.cells (tmC p z ++ tmC (q k) x).toArray 28 (0, 0)) := ⟨_, rfl⟩
        have hW9' : W9 = _ := hW9
        simp only [tmC, List.cons_append, List.nil_append] at hW9'
        rw [← hW9']
        have hb9 : Below WS.heap.size WS W9 := by rw [hW9]; exact below_alloc (Below.refl _ _) _
        have hR9 : W9.heap[W5.heap.size]? = some (.cells (tmC p z ++ tmC (q k) x).toArray 28 (0, 0)) := by rw [hW9, ← hsz]; exact blk_new _ _
        clear hW9 hW9'
        have hst : ∀ j, j < W5.heap.size → j ≠ w.heap.size → W9.heap[j]? = W5.heap[j]? := fun j h1 h2 => (hb9.block j (by omega)).trans (hch.block j h1 h2)
        have hO9 : W9.heap[w.heap.size]? = some (tmO ⟨none, 0, none, 0, some ⟨W5.heap.size, 0, none⟩, 2⟩ (appT z x)) := (hb9.block _ (by omega)).trans hs8
        have hX9 := (hst (w.heap.size + 1) (by omega) (by omega)).trans HX5.out
        have hz9 : TmS W9 (fun k => k < g0 ∨ w.heap.size + 1 + 1 ≤ k) p z := HF5.out.same fun j h1 h2 => hst j h2 (by omega)
        have hx9 : TmS W9 (fun k => k < g0 ∨ w.heap.size + 1 + 1 ≤ k) (q k) x := (TmS.same HIN5.out fun j h1 h2 => hst j h2 (by omega)).mono fun j h _ => .inl h
        have hb0 : Below w.heap.size w WS := Chg.trans_below HBW5.out hch (fun _ e => by omega) HBW5.out.size
        have hB9 := below_then hb0 hb0.size hb9
        have hzz := hB9.size
        have hz99 := hb9.size
        exact ⟨k + 1, _, by go_num, by omega, ⟨by rw [HTK.out]; exact hO9⟩, ⟨hX9⟩, ⟨by rw [HTK.out]; exact TmS.pair hR9 (.inr (by omega)) hz9 hx9 6⟩, ⟨hB9⟩, by omega⟩
      case measure => (simp [intOf]; try omega)
    · obtain rfl : k = n := by omega
      have hlt' : decide ((k : Int) < k) = false := by simp
      have hfull : xs.take k = xs := List.take_of_length_le (by rw [HN.out]; exact Nat.le_refl _)
      rw [hfull] at HO HF
      clear hfull HIN HN
      obtain ⟨z, hz⟩ : ∃ z, z = appsP f xs := ⟨_, rfl⟩
      rw [← hz] at HO HF
      have HZE := Aside0.mk hz
      clear hz
      have HGE := Aside0.mk (great_eq z)
      have hzr : w.heap.size < wr.heap.size := by omega
      by_cases hk : okT z
      · have HG := Aside0.mk (show greatB z = false by rw [HGE.out]; simp [hk])
        have HYO := Aside0.mk (show y = ownT z by rw [HY.out, HZE.out]; rw [HZE.out] at hk; exact AppsT_ok hk)
        clear hk
        go_upto_region 8 with (first
          | (refine wpList_load_row rfl 28 _ rfl (w.heap.size) rfl 28 _ (0, 0) _ HO.out Try.underlying28 rfl (by kernel_rfl) ?_)
          | (go_at_call 55; go_must (refine (great_calls z p wr (TmS.all HF.out)).mono ?_; rintro e w7 ⟨rfl, hb⟩; rw [HG.out]; have HO7 := Aside0.mk ((hb.block _ (blk_lt HO.out)).trans HO.out); have HX7 := Aside0.mk ((hb.block _ (blk_lt HX.out)).trans HX.out); have HF7 := Aside0.mk (TmS.mono (S' := fun k => (k < g0 ∨ w.heap.size + 1 + 1 ≤ k) ∧ k < w7.heap.size) (HF.out.later hb) fun k h hz => ⟨h, hz⟩); have HB7 := Aside0.mk (below_then HB.out HB.out.size hb); have hz7 := hb.size; clear hb)))
        go_wp2_with (first
          | (refine wpList_load_row rfl 28 _ rfl (w.heap.size) rfl 28 _ (0, 0) _ HO7.out Try.underlying28 rfl (by kernel_rfl) ?_)
          | (go_at_call 56; go_must (refine (townS_calls _ w7.heap.size z p w7 (Nat.le_refl _) (fun k h => h.2) HF7.out).mono ?_; rw [← HYO.out]; rintro e w3 ⟨q9, rfl, ht9, hb3⟩; have HT9 := Aside0.mk (TmS.mono (S' := fun k => k < g0 ∨ w.heap.size + 1 + 1 ≤ k) ht9 fun k h _ => h.elim (fun h => h.1) fun h => .inr (by omega)); have hX13 := (hb3.block _ (blk_lt HX7.out)).trans HX7.out; have HX13 := Aside0.mk hX13; have HB3 := Aside0.mk (below_then HB7.out HB7.out.size hb3); obtain ⟨r0, r1, r2, r3, r4, r5, r6, r7, f0, f1, f2, f3, f4, f5, f6, f7⟩ := row8c hX13; clear ht9 hb3 hX13; unfold tmV)))
        refine bodyPost_ret (results_c rfl _ _ (w.heap.size + 1) 28 #[.int .i64 y.kind, .int .i64 y.num, .string y.name, .int .i64 y.lv.kind, .int .i64 y.lv.num, .slice q9.A y.lv.kids.length q9.c, .slice q9.B y.ls.length q9.d, .slice q9.K y.kids.length q9.e] (0, 0) _ rfl (set8 HX13.out) Try.underlying28 rfl (by kernel_rfl)) rfl ?_
        exact tm_ret (g := w.heap.size + 1) HT9.out (chg_set8 w3 (w.heap.size + 1) (.int .i64 y.kind) (.int .i64 y.num) (.string y.name) (.int .i64 y.lv.kind) (.int .i64 y.lv.num) (.slice q9.A y.lv.kids.length q9.c) (.slice q9.B y.ls.length q9.d) (.slice q9.K y.kids.length q9.e)) hg0 (by omega) (by omega) HB3.out
      · have HG := Aside0.mk (show greatB z = true by rw [HGE.out]; simp [hk])
        obtain rfl : zeroT = y := by rw [HY.out]; rw [HZE.out] at hk; exact (AppsT_no hk).symm
        clear hk
        go_upto_region 7 with (first
          | (refine wpList_load_row rfl 28 _ rfl (w.heap.size) rfl 28 _ (0, 0) _ HO.out Try.underlying28 rfl (by kernel_rfl) ?_)
          | (go_at_call 55; go_must (refine (great_calls z p wr (TmS.all HF.out)).mono ?_; rintro e w7 ⟨rfl, hb⟩; rw [HG.out]; have HX7 := Aside0.mk ((hb.block _ (blk_lt HX.out)).trans HX.out); have HB7 := Aside0.mk (below_then HB.out HB.out.size hb); have hz7 := hb.size; clear hb)))
        obtain ⟨r0, r1, r2, r3, r4, r5, r6, r7, f0, f1, f2, f3, f4, f5, f6, f7⟩ := row8c HX7.out
        go_wp2
        refine bodyPost_ret (results_c rfl _ _ (w.heap.size + 1) 28 #[.int .i64 0, .int .i64 0, .string ⟨#[]⟩, .int .i64 0, .int .i64 0, .slice none 0 0, .slice none 0 0, .slice none 0 0] (0, 0) _ rfl (set8 HX7.out) Try.underlying28 rfl (by kernel_rfl)) rfl ?_
        exact tm_ret (g := w.heap.size + 1) (m := w.heap.size + 1 + 1) (TmS.zero w7 _) (chg_set8 w7 (w.heap.size + 1) (.int .i64 0) (.int .i64 0) (.string ⟨#[]⟩) (.int .i64 0) (.int .i64 0) (.slice none 0 0) (.slice none 0 0) (.slice none 0 0)) hg0 (by omega) (by omega) HB7.out

end Go.Proofs.Ytdboloabpjmgaaa

/-! TAwk -/
namespace Go.Proofs.Ytdboloabpjmgaaa
open Go.RowKit Go.Proofs.YtdboloabpjmgaaaW.PrintWords Go.RegionInvYtdboloabpjmgaaa Go.RegionEYtdboloabpjmgaaa

/-! ### a node with two kids -/
theorem reb_lam (RF : Tm → Int → Tm) (n : Int) (nm : ByteArray) (lv : Lv) (ls : List Lv) (x y : Tm) (b : Int) : rebP RF (.mk 4 n nm lv ls [x, y]) b = .mk 4 0 noName lv0 [] [rebP RF x (b + 0), rebP RF y (b + 1)] := (reb_node rfl).trans rfl
theorem reb_app (RF : Tm → Int → Tm) (n : Int) (nm : ByteArray) (lv : Lv) (ls : List Lv) (x y : Tm) (b : Int) : rebP RF (.mk 6 n nm lv ls [x, y]) b = .mk 6 0 noName lv0 [] [rebP RF x (b + 0), rebP RF y (b + 0)] := (reb_node rfl).trans rfl
theorem size_lam (n : Int) (nm : ByteArray) (lv : Lv) (ls : List Lv) (x y : Tm) : sizeT (.mk 4 n nm lv ls [x, y]) = 1 + (sizeT x + (sizeT y + 0)) := by rw [sizeT]; rfl
theorem size_app (n : Int) (nm : ByteArray) (lv : Lv) (ls : List Lv) (x y : Tm) : sizeT (.mk 6 n nm lv ls [x, y]) = 1 + (sizeT x + (sizeT y + 0)) := by rw [sizeT]; rfl
theorem depth_lam (n : Int) (nm : ByteArray) (lv : Lv) (ls : List Lv) (x y : Tm) : depthT (.mk 4 n nm lv ls [x, y]) = 1 + max (depthT x) (max (depthT y) 0) := by rw [depthT]; rfl
theorem depth_app (n : Int) (nm : ByteArray) (lv : Lv) (ls : List Lv) (x y : Tm) : depthT (.mk 6 n nm lv ls [x, y]) = 1 + max (depthT x) (max (depthT y) 0) := by rw [depthT]; rfl
theorem occ_lam (n : Int) (nm : ByteArray) (lv : Lv) (ls : List Lv) (x y : Tm) (b : Int) : occT (.mk 4 n nm lv ls [x, y]) b = 0 + (occT x (b + 0) + (occT y (b + 1) + 0)) := by rw [occT]; rfl
theorem occ_app (n : Int) (nm : ByteArray) (lv : Lv) (ls : List Lv) (x y : Tm) (b : Int) : occT (.mk 6 n nm lv ls [x, y]) b = 0 + (occT x (b + 0) + (occT y (b + 0) + 0)) := by rw [occT]; rfl
theorem occ_leaf {t : Tm} (h : nK t = 0) (b : Int) : occT t b = if hitB t b = true then 1 else 0 := by
  rw [occT]
  have : List.finRange (nK t) = [] := List.eq_nil_of_length_eq_zero (by rw [List.length_finRange]; exact h)
  rw [this]; rfl
/-! ### the terms of awake -/
def aC (c : UInt8) : Tm := .mk 7 0 ⟨#[c]⟩ lv0 [] []
theorem cons_aC (c : UInt8) : consT ⟨#[c]⟩ [] = aC c := rfl
theorem nK_aC (c : UInt8) : nK (aC c) = 0 := rfl
theorem nK_var (n : Int) : nK (varT n) = 0 := rfl
theorem ok_aC (c : UInt8) : okT (aC c) := ⟨by rw [size_leaf (nK_aC c)]; decide, by rw [depth_leaf (nK_aC c)]; decide⟩
theorem own_aC (c : UInt8) : ownT (aC c) = aC c := (ownT_ok (ok_aC c)).trans ((reb_leaf rfl).trans rfl)
def aP (x y : Tm) : Tm := appT x y
theorem ok_app {x y : Tm} (hx : nK x = 0) (hy : nK y = 0) : okT (appT x y) := ⟨by rw [appT, size_app, size_leaf hx, size_leaf hy]; decide, by rw [appT, depth_app, depth_leaf hx, depth_leaf hy]; decide⟩
theorem own_app : ownT (appT (varT 1) (varT 0)) = appT (varT 1) (varT 0) := by
  rw [ownT_ok (ok_app (nK_var 1) (nK_var 0)), appT, reb_app, reb_leaf rfl, reb_leaf rfl, nodeP_var rfl, nodeP_var rfl]; rfl
theorem apps_a : AppsT (varT 1) [varT 0] = appT (varT 1) (varT 0) := (AppsT_ok (f := varT 1) (xs := [varT 0]) (ok_app (nK_var 1) (nK_var 0))).trans own_app
def aL : Tm := .mk 4 0 noName lv0 [] [aC 97, appT (varT 1) (varT 0)]
theorem made_a : madeT 4 [aC 97, appT (varT 1) (varT 0)] = aL := by
  show Tm.mk 4 0 noName lv0 [] [ownT (aC 97), ownT (appT (varT 1) (varT 0))] = aL
  rw [own_aC, own_app]; rfl
theorem ok_lam {c x y : Tm} (hc : nK c = 0) (hx : nK x = 0) (hy : nK y = 0) : okT (.mk 4 0 noName lv0 [] [c, appT x y]) :=
  ⟨by rw [size_lam, appT, size_app, size_leaf hc, size_leaf hx, size_leaf hy]; decide, by rw [depth_lam, appT, depth_app, depth_leaf hc, depth_leaf hx, depth_leaf hy]; decide⟩
def aY : Tm := .mk 4 0 noName lv0 [] [aC 97, appT (aC 99) (varT 0)]
theorem inst_a : InstT aL (aC 99) = aY := by
  have hs : instS aL (aC 99) ≤ 20000 := by
    unfold instS
    rw [size_leaf (nK_aC 99), aL, size_lam, appT, size_app, size_leaf (nK_aC 97), size_leaf (nK_var 1), size_leaf (nK_var 0)]
    simp
  rw [InstT_ok (t := aL) (ok_lam (nK_aC 97) (nK_var 1) (nK_var 0)) (ok_aC 99) hs]
  have e : rebP (instF (aC 99)) aL 0 = aY := by
    rw [aL, appT, reb_lam, reb_app, reb_leaf rfl, reb_leaf rfl, reb_leaf rfl, instF_hit (b := 0 + 1 + 0) rfl rfl, instF_near (t := varT 0) (by decide)]
    rw [show liftT 0 (0 + 1 + 0) (aC 99) = aC 99 from (reb_leaf rfl).trans rfl, nodeP_var rfl]
    rfl
  rw [e, fitT_ok (t := aY) (ok_lam (nK_aC 97) (nK_aC 99) (nK_var 0))]
/-- One term in a row. -/
theorem one_row {w : World} {g : Nat} {p : Pl} {t : Tm} (h : w.heap[g]? = some (tmO p t)) (ht : TmIn w w.heap.size p t) : TmsAt w w.heap.size (some ⟨g, 0, none⟩) (fun _ => p) [t] := by
  have hg := blk_lt h
  intro i x hx
  have hi : i = 0 := by
    have := (List.getElem?_eq_some_iff.1 hx).1
    simp only [List.length_cons, List.length_nil] at this
    omega
  subst hi
  obtain rfl : t = x := by simpa using hx
  refine ⟨⟨g, 0, rfl, hg, fun j v hv => ?_⟩, ht⟩
  rw [show 0 + 0 * 8 + j = j by omega, cell_of_row _ _ _ _ _ _ h]
  have e : (tmC p t).toArray[j]? = (tmC p t)[j]? := List.getElem?_toArray
  exact e.trans hv
set_option maxRecDepth 100000 in
set_option maxHeartbeats 4000000 in
theorem awake_calls (w : World) : Calls Try.prog 25 #[] w fun e w' => e = .returned (.bool true) ∧ Below w.heap.size w w' := by
  obtain ⟨ca, hca⟩ : ∃ x, x = consT ⟨#[97]⟩ [] := ⟨_, rfl⟩
  obtain ⟨cc, hcc⟩ : ∃ x, x = consT ⟨#[99]⟩ [] := ⟨_, rfl⟩
  obtain ⟨v1, hv1⟩ : ∃ x, x = varT 1 := ⟨_, rfl⟩
  obtain ⟨v0, hv0⟩ : ∃ x, x = varT 0 := ⟨_, rfl⟩
  obtain ⟨ap, hap⟩ : ∃ x, x = AppsT v1 [v0] := ⟨_, rfl⟩
  obtain ⟨la, hla⟩ : ∃ x, x = madeT 4 [ca, ap] := ⟨_, rfl⟩
  obtain ⟨y, hy⟩ : ∃ x, x = InstT la cc := ⟨_, rfl⟩
  have HY := Aside0.mk (show y = aY by rw [hy, hla, hap, hca, hcc, hv1, hv0, cons_aC, cons_aC, apps_a, made_a, inst_a])
  have HCA := Aside0.mk hca
  have HCC := Aside0.mk hcc
  have HV1 := Aside0.mk hv1
  have HV0 := Aside0.mk hv0
  have HAP := Aside0.mk hap
  have HLA := Aside0.mk hla
  have HYI := Aside0.mk hy
  clear hca hcc hv1 hv0 hap hla hy
  go_enter Try.func25, Try.ntmps25
  go_upto_region 2 with (first
    | (go_at_call 28; (refine (TmGot.as (tconst_calls 0 ⟨#[97]⟩ none 0 0 [] w (Nat.zero_le _) rfl (by decide) (by decide) (LvS.leaf _ _ _ _)) HCA.out.symm).mono ?_; rintro e w1 ⟨q1, rfl, ht, hb⟩; have HT1 := Aside0.mk (TmS.all ht); have HB1 := Aside0.mk (hb); have HS1 := Aside0.mk hb; clear ht hb; unfold tmV))
    | (go_at_call 14; (refine (TmGot.as (tvar_calls 0 1 w1 (by decide)) HV1.out.symm).mono ?_; rintro e w2 ⟨q2, rfl, ht, hb⟩; have HT2 := Aside0.mk (TmS.all ht); have HB2 := Aside0.mk (below_then HB1.out HB1.out.size hb); have HS2 := Aside0.mk hb; clear ht hb; unfold tmV))
    | (go_at_call 14; (refine (TmGot.as (tvar_calls 0 0 w2 (by decide)) HV0.out.symm).mono ?_; rintro e w3 ⟨q3, rfl, ht, hb⟩; have HT3 := Aside0.mk (TmS.all ht); have HB3 := Aside0.mk (below_then HB2.out HB2.out.size hb); have HS3 := Aside0.mk hb; clear ht hb; unfold tmV))
    | (have hrow := Aside0.mk (show (w3.alloc (tmO q3 v0)).heap[w3.heap.size]? = some (tmO q3 v0) from blk_new _ _); have HBR := Aside0.mk (show Below w3.heap.size w3 (w3.alloc (tmO q3 v0)) from below_alloc (Below.refl _ _) _); obtain ⟨W, hW⟩ : ∃ W, W = w3.alloc (tmO q3 v0) := ⟨_, rfl⟩; rw [← hW] at hrow HBR; unfold tmO at hW; rw [← hW]; clear hW; have HBW := Aside0.mk (below_then HB3.out HB3.out.size HBR.out); have HV1W := Aside0.mk (TmS.all ((HT2.out.later HS3.out).later HBR.out)); have HV0W := Aside0.mk (TmS.all (HT3.out.later HBR.out)); have HCAW := Aside0.mk (TmS.all (((HT1.out.later HS2.out).later HS3.out).later HBR.out)); (go_at_call 16; (refine (TmGot.as (Apps_calls W.heap.size v1 q2 (some ⟨w3.heap.size, 0, none⟩) 1 1 _ [v0] W (Nat.le_refl _) rfl (by decide) HV1W.out (one_row hrow.out HV0W.out)) HAP.out.symm).mono ?_; rintro e w4 ⟨q4, rfl, ht, hb⟩; have HT4 := Aside0.mk (TmS.all ht); have HB4 := Aside0.mk (below_then HBW.out HBW.out.size hb); have HS4 := Aside0.mk hb; clear ht hb; unfold tmV)))
    | (go_at_call 31; (refine (TmGot.as (lam_calls w4.heap.size q1 ca q4 ap w4 (Nat.le_refl _) (TmS.all (HCAW.out.later HS4.out)) HT4.out) HLA.out.symm).mono ?_; rintro e w5 ⟨q5, rfl, ht, hb⟩; have HT5 := Aside0.mk (TmS.all ht); have HB5 := Aside0.mk (below_then HB4.out HB4.out.size hb); have HS5 := Aside0.mk hb; clear ht hb; unfold tmV))
    | (go_at_call 28; (refine (TmGot.as (tconst_calls 0 ⟨#[99]⟩ none 0 0 [] w5 (Nat.zero_le _) rfl (by decide) (by decide) (LvS.leaf _ _ _ _)) HCC.out.symm).mono ?_; rintro e w6 ⟨q6, rfl, ht, hb⟩; have HT6 := Aside0.mk (TmS.all ht); have HB6 := Aside0.mk (below_then HB5.out HB5.out.size hb); have HS6 := Aside0.mk hb; clear ht hb; unfold tmV))
    | (go_at_call 17; (refine (TmGot.as (Inst_calls w6.heap.size la cc q5 q6 w6 (Nat.le_refl _) (TmS.all (HT5.out.later HS6.out)) HT6.out) HYI.out.symm).mono ?_; rintro e w7 ⟨q7, rfl, ht, hb⟩; have HT7 := Aside0.mk (TmS.all ht); have HB7 := Aside0.mk (below_then HB6.out HB6.out.size hb); have HS7 := Aside0.mk hb; clear ht hb; unfold tmV)))
  obtain ⟨W8, hW8⟩ : ∃ W8, W8 = w7.alloc (tmO q7 y) := ⟨_, rfl⟩
  have hb8 : Below w7.heap.size w7 W8 := by rw [hW8]; exact below_alloc (Below.refl _ _) _
  have HT8 := Aside0.mk (TmS.later HT7.out hb8)
  have HO8 := Aside0.mk (show W8.heap[w7.heap.size]? = some (tmO q7 y) by rw [hW8]; exact blk_new _ _)
  have HB8 := Aside0.mk (below_then HB7.out HB7.out.size hb8)
  unfold tmO at hW8
  rw [← hW8]
  clear hW8 hb8
  clear HT1 HT2 HT3 HT4 HT5 HT6 HT7 HB1 HB2 HB3 HB4 HB5 HB6 HB7 HS1 HS2 HS3 HS4 HS5 HS6 HS7 hrow HBR HBW HV1W HV0W HCAW
  have hT := HT8.out
  rw [HY.out] at hT
  obtain ⟨qk, hk⟩ := hT.kid
  obtain ⟨⟨b, o, hK, -, hc⟩, hT1⟩ := hk 1 (appT (aC 99) (varT 0)) rfl
  obtain ⟨qq, hkk⟩ := hT1.kid
  obtain ⟨⟨b0, o0, hK0, -, hc0⟩, -⟩ := hkk 0 (aC 99) rfl
  obtain ⟨⟨b1, o1, hK1, -, hc1⟩, -⟩ := hkk 1 (varT 0) rfl
  obtain ⟨k0, k1, k2, k3, k4, k5, k6, k7⟩ := row8 HO8.out
  obtain ⟨rfl, rfl⟩ : b0 = b1 ∧ o0 = o1 := by
    have e := hK0.symm.trans hK1
    injection e with e
    injection e with e1 e2
    exact ⟨e1, e2⟩
  have m0 : W8.cell? ⟨w7.heap.size, 0, none⟩ = some (.int .i64 4) := by rw [HY.out] at k0; exact k0
  have m7 : W8.cell? ⟨w7.heap.size, 7, none⟩ = some (.slice (some ⟨b, o, none⟩) 2 q7.e) := by rw [HY.out, hK] at k7; exact k7
  have d7 : W8.cell? ⟨b, o + 8 + 7, none⟩ = some (.slice (some ⟨b0, o0, none⟩) 2 (qk 1).e) := by have := hc 7 _ rfl; rw [hK0] at this; exact this
  have n2 : W8.cell? ⟨b0, o0 + 2, none⟩ = some (.string ⟨#[99]⟩) := hc0 2 _ rfl
  have n1 : W8.cell? ⟨b0, o0 + 8 + 1, none⟩ = some (.int .i64 0) := hc1 1 _ rfl
  have d7' : W8.cell? ⟨b, o + 15, none⟩ = some (.slice (some ⟨b0, o0, none⟩) 2 (qk 1).e) := d7
  have n1' : W8.cell? ⟨b0, o0 + 9, none⟩ = some (.int .i64 0) := n1
  clear k0 k1 k2 k3 k4 k5 k6 k7 hk hkk hc hc0 hc1 hT hT1 hK hK0 hK1
  go_wp2
  go_ret
  exact ⟨rfl, HB8.out⟩

end Go.Proofs.Ytdboloabpjmgaaa

/-! FoMa -/
namespace Go.Proofs.Ytdboloabpjmgaaa
open Go.RowKit Go.Shelf Go.Proofs.YtdboloabpjmgaaaW.PrintWords Go.RegionInvYtdboloabpjmgaaa
attribute [local go_sem] Oper.semAt_some

abbrev vfMa (g1 g2 g3 : Nat) : Value := .func (.func 82) #[] #[.pointer (some ⟨g1, 0, none⟩), .pointer (some ⟨g2, 0, none⟩), .pointer (some ⟨g3, 0, none⟩)]
abbrev foWMa (w : World) (p : Pl) (t : Tm) (d b : Int) (g1 g2 g3 : Nat) : World :=
  ((((w.alloc (tmO p t)).alloc (.cells #[.int .i64 d] 3 (0, 0))).alloc (.cells #[.int .i64 b] 3 (0, 0))).alloc (.cells #[vfMa g1 g2 g3] 66 (0, 0))).alloc (.cells #[.bool false] 4 (0, 0))
set_option maxRecDepth 100000 in
set_option maxHeartbeats 16000000 in
theorem fold_Ma {σ : Type} (F : Tm → Int → Int → σ → Bool × σ) (Rep : σ → World → Prop) (Inv : σ → Prop) (P : Tm → Int → Prop) (G : Nat → Prop) (B g0 : Nat) (g1 g2 g3 : Nat)
    (hG : ∀ k, G k → B ≤ k ∧ k < g0) (hBg : B ≤ g0) (hRep : ∀ (s : σ) (W W' : World), Rep s W → (∀ k, G k → W'.heap[k]? = W.heap[k]?) → Rep s W')
    (hvis : ∀ (t : Tm) (p : Pl) (d b : Int) (s : σ) (w : World), P t d → 0 ≤ b → b ≤ d → Inv s → g0 ≤ w.heap.size → TmIn w B p t → Rep s w → Calls Try.prog 82 #[tmV p t, .int .i64 d, .int .i64 b, .pointer (some ⟨g1, 0, none⟩), .pointer (some ⟨g2, 0, none⟩), .pointer (some ⟨g3, 0, none⟩)] w (FoldPost Rep G w (F t d b s)))
    (hF : ∀ (t : Tm) (d b : Int) (s : σ), P t d → Inv s → (F t d b s).1 = true → Inv (F t d b s).2 ∧ ∀ i : Fin (nK t), P (kidF t i) (d + 1)) (hP : ∀ t d, P t d → 0 ≤ d ∧ d ≤ 100000)
    (N : Nat) : ∀ (t : Tm), SizeOf.sizeOf t < N → ∀ (p : Pl) (d b : Int) (s : σ) (w : World), P t d → 0 ≤ b → b ≤ d → Inv s → g0 ≤ w.heap.size → TmIn w B p t → Rep s w →
    Calls Try.prog 58 #[tmV p t, .int .i64 d, .int .i64 b, vfMa g1 g2 g3] w (FoldPost Rep G w (foldP F t d b s)) := by
  induction N with
  | zero => intro t h; omega
  | succ N ih =>
    intro t hN p d b s w hPd hb0 hbd hI hg hin hR
    have IH := Aside0.mk ih
    have HG := Aside0.mk hG
    have HRP := Aside0.mk hRep
    have HVS := Aside0.mk hvis
    have HF := Aside0.mk hF
    have HP := Aside0.mk hPd
    have HI := Aside0.mk hI
    have HIN := Aside0.mk hin
    have HR := Aside0.mk hR
    have HNN := Aside0.mk hN
    have hd := hP t d hPd
    have HPP := Aside0.mk hP
    have hz0 : (foWMa w p t d b g1 g2 g3).heap.size = w.heap.size + 5 := by simp
    have hb0w : Below w.heap.size w (foWMa w p t d b g1 g2 g3) := below_alloc (below_alloc (below_alloc (below_alloc (below_alloc (Below.refl _ _) _) _) _) _) _
    have HZ0 := Aside0.mk hz0
    have HB0 := Aside0.mk hb0w
    have HX0 := Aside0.mk (show (foWMa w p t d b g1 g2 g3).heap[w.heap.size]? = some (tmO p t) from blk_alloc (blk_alloc (blk_alloc (blk_alloc (blk_new _ _) _) _) _) _)
    have HX1 := Aside0.mk (show (foWMa w p t d b g1 g2 g3).heap[w.heap.size + 1]? = some (.cells #[.int .i64 d] 3 (0, 0)) by have := blk_new (w.alloc (tmO p t)) (.cells #[.int .i64 d] 3 (0, 0)); simp only [World.size_alloc] at this; exact blk_alloc (blk_alloc (blk_alloc this _) _) _)
    have HX2 := Aside0.mk (show (foWMa w p t d b g1 g2 g3).heap[w.heap.size + 1 + 1]? = some (.cells #[.int .i64 b] 3 (0, 0)) by have := blk_new ((w.alloc (tmO p t)).alloc (.cells #[.int .i64 d] 3 (0, 0))) (.cells #[.int .i64 b] 3 (0, 0)); simp only [World.size_alloc] at this; exact blk_alloc (blk_alloc this _) _)
    have HX3 := Aside0.mk (show (foWMa w p t d b g1 g2 g3).heap[w.heap.size + 1 + 1 + 1]? = some (.cells #[vfMa g1 g2 g3] 66 (0, 0)) by have := blk_new (((w.alloc (tmO p t)).alloc (.cells #[.int .i64 d] 3 (0, 0))).alloc (.cells #[.int .i64 b] 3 (0, 0))) (.cells #[vfMa g1 g2 g3] 66 (0, 0)); simp only [World.size_alloc] at this; exact blk_alloc this _)
    have HX4 := Aside0.mk (show (foWMa w p t d b g1 g2 g3).heap[w.heap.size + 1 + 1 + 1 + 1]? = some (.cells #[.bool false] 4 (0, 0)) by have := blk_new ((((w.alloc (tmO p t)).alloc (.cells #[.int .i64 d] 3 (0, 0))).alloc (.cells #[.int .i64 b] 3 (0, 0))).alloc (.cells #[vfMa g1 g2 g3] 66 (0, 0))) (.cells #[.bool false] 4 (0, 0)); simp only [World.size_alloc] at this; exact this)
    have hR0 : Rep s (foWMa w p t d b g1 g2 g3) := hRep _ _ _ hR fun k hk => hb0w.block k (Nat.lt_of_lt_of_le (hG k hk).2 hg)
    have HR0 := Aside0.mk hR0
    have HIN0 := Aside0.mk (hin.stay (hb0w.mono (Nat.le_trans hBg hg)))
    have HGG := Aside0.mk (show ∀ k, G k → k < w.heap.size from fun k hk => Nat.lt_of_lt_of_le (hG k hk).2 hg)
    clear ih hG hRep hvis hF hPd hI hin hR hN hP hz0 hb0w hR0
    unfold tmV vfMa
    refine (callsIn_wide (n := 5)).1 ?_
    refine callsIn_of_wp_marks Try.func58 rfl trivial ?_ rfl
    simp only [Try.ntmps58, List.size_toArray, List.length_cons, List.length_nil, Nat.reduceAdd, Nat.reduceSub, Array.replicate_succ, Array.replicate_zero, List.push_toArray, List.append_toArray, List.nil_append, List.cons_append]
    obtain ⟨e1, s1, hes⟩ : ∃ x y, F t d b s = (x, y) := ⟨_, _, rfl⟩
    have HV := Aside0.mk hes
    cases e1 with
    | false =>
      have HE := Aside0.mk (show foldP F t d b s = (false, s1) by rw [foldP_stop (by rw [hes]), hes])
      clear hes
      gi_wp2
      refine ⟨trivial, ?_⟩
      gi_at_call 82
      refine (callsIn_wide.2 (HVS.out t p d b s _ HP.out hb0 hbd HI.out (Nat.le_trans hg HB0.out.size) HIN0.out HR0.out)).mono ?_
      rintro e w1 ⟨rfl, hR1, hC1⟩
      rw [HV.out] at hR1 ⊢
      have HR1 := Aside0.mk hR1
      have HC1 := Aside0.mk hC1
      have hx4 := (hC1.block _ (by rw [HZ0.out]; omega) (fun h => by have := HGG.out _ h; omega)).trans HX4.out
      have HX41 := Aside0.mk hx4
      have c4 : w1.cell? ⟨w.heap.size + 1 + 1 + 1 + 1, 0, none⟩ = some (.bool false) := by (rw [cell_of_row _ _ _ _ _ _ hx4]; rfl)
      have f4 := blk_frozen hx4 0
      clear hR1 hC1 hx4
      gi_wp2
      have hc5 : (w1.setCell ⟨w.heap.size + 1 + 1 + 1 + 1, 0, none⟩ (.bool false)).cell? ⟨w.heap.size + 1 + 1 + 1 + 1, 0, none⟩ = some (.bool false) := World.cell?_setCell_same' _ _ _ (by rw [c4]; rfl)
      refine ⟨.bool false, ?_, ?_⟩
      · simp [results, Try.f58, go_sem, hc5]
      · rw [HE.out]
        refine ⟨rfl, HRP.out _ _ _ HR1.out (fun k hk => (chg_set w1 (w.heap.size + 1 + 1 + 1 + 1) 0 (.bool false)).block k (by have := HC1.out.size; have := HZ0.out; have := HGG.out k hk; omega) (fun e => by have := HGG.out k hk; omega)), ?_⟩
        exact chg_cut (Chg.of_below HB0.out) (HC1.out.mono fun k h => .inl h) ((chg_set w1 _ 0 _).mono fun k h => .inr (by have h : k = w.heap.size + 1 + 1 + 1 + 1 := h; omega))
    | true =>
      have h2 := HF.out t d b s HP.out HI.out (by rw [hes])
      rw [hes] at h2
      have HI1 := Aside0.mk h2.1
      have HPK := Aside0.mk h2.2
      have HE := Aside0.mk (show foldP F t d b s = runL (fun (i : Fin (nK t)) s => foldP F (kidF t i) (d + 1) (b + moreZ t i) s) (List.finRange (nK t)) s1 by rw [foldP_go (by rw [hes]), hes])
      clear hes h2
      gi_wp2
      refine ⟨trivial, ?_⟩
      gi_at_call 82
      refine (callsIn_wide.2 (HVS.out t p d b s _ HP.out hb0 hbd HI.out (Nat.le_trans hg HB0.out.size) HIN0.out HR0.out)).mono ?_
      rintro e w1 ⟨rfl, hR1, hC1⟩
      rw [HV.out] at hR1 ⊢
      have HR1 := Aside0.mk hR1
      have HC1 := Aside0.mk hC1
      have hgn : ∀ j, w.heap.size ≤ j → ¬ G j := fun j hj h => by have := HGG.out j h; omega
      have hX0 := (hC1.block w.heap.size (by rw [HZ0.out]; omega) (hgn _ (by omega))).trans HX0.out
      have hX1 := (hC1.block _ (by rw [HZ0.out]; omega) (hgn _ (by omega))).trans HX1.out
      have hX2 := (hC1.block _ (by rw [HZ0.out]; omega) (hgn _ (by omega))).trans HX2.out
      have hX3 := (hC1.block _ (by rw [HZ0.out]; omega) (hgn _ (by omega))).trans HX3.out
      have hX4 := (hC1.block _ (by rw [HZ0.out]; omega) (hgn _ (by omega))).trans HX4.out
      have hz1 := hC1.size
      rw [HZ0.out] at hz1
      have HX01 := Aside0.mk hX0
      have HX11 := Aside0.mk hX1
      have HX21 := Aside0.mk hX2
      have HX31 := Aside0.mk hX3
      have HX41 := Aside0.mk hX4
      have HGN := Aside0.mk hgn
      have HIN1 := Aside0.mk (HIN0.out.same (w' := w1) fun k hk hz => hC1.block k hz (fun h => by have := (HG.out k h).1; omega))
      obtain ⟨c0, c1, c2, c3, c4, c5, c6, c7⟩ := row8 hX0
      clear hR1 hC1 hX0 hX1 hX2 hX3 hX4 hgn
      gi_wp2
      refine ⟨trivial, ?_⟩
      gi_at_call 96
      refine (callsIn_wide.2 (tkids_calls p t _)).mono ?_
      rintro e w2 ⟨rfl, hw2⟩
      have HZX2 := Aside0.mk (show w2.heap[w1.heap.size]? = some (tmO p t) by rw [hw2]; exact blk_new _ _)
      have HB2 := Aside0.mk (show Below w1.heap.size w1 w2 by rw [hw2]; exact below_alloc (Below.refl _ _) _)
      clear hw2 c0 c1 c2 c3 c4 c5 c6 c7
      gi_wp2
      obtain ⟨q, hq⟩ := (HIN1.out.later HB2.out).kid
      have HQ := Aside0.mk hq
      have hlen := HIN1.out.len
      have hz2 := HB2.out.size
      have hzz := blk_lt HZX2.out
      have hgl : ∀ k, G k → k < w2.heap.size := fun k hk => by have := HGG.out k hk; omega
      have HGL := Aside0.mk hgl
      have HINV := Aside0.mk (foldP_inv HF.out)
      clear hq
      refine wpIn_rangeFunc_ownH (F := Fence.wide) rfl (by decide) (gf := 117) (lb := #[.pointer (some ⟨w1.heap.size, 0, none⟩)]) rfl trivial (enters_of Try.func117 (by kernel_rfl) rfl)
        (kids_stops (5 - 1) (by decide) p t q w1.heap.size w2.heap.size G (fun k => k < B) w2 HZX2.out hzz (Nat.le_refl _) (HGN.out _ (by omega)) (fun k hk => ⟨by omega, fun h => by have := (HG.out k h).1; omega⟩) (by omega) (fun i x hx => (HQ.out i x hx).1))
        kpG_trans (kpG_put (Nat.le_refl _)) (Below.refl _ _) (fun _ => rfl)
        (fun pre W => ((runL (fun (i : Fin (nK t)) s => foldP F (kidF t i) (d + 1) (b + moreZ t i) s) pre s1).1 = true ∧ Inv (runL (fun (i : Fin (nK t)) s => foldP F (kidF t i) (d + 1) (b + moreZ t i) s) pre s1).2) ∧ Rep (runL (fun (i : Fin (nK t)) s => foldP F (kidF t i) (d + 1) (b + moreZ t i) s) pre s1).2 W ∧ Chg G w2 W)
        (fun c pre W => (c = .ret ∧ (runL (fun (i : Fin (nK t)) s => foldP F (kidF t i) (d + 1) (b + moreZ t i) s) pre s1).1 = false) ∧ (Rep (runL (fun (i : Fin (nK t)) s => foldP F (kidF t i) (d + 1) (b + moreZ t i) s) pre s1).2 W ∧ W.heap[w.heap.size + 1 + 1 + 1 + 1]? = some (.cells #[.bool false] 4 (0, 0))) ∧ Chg (fun k => G k ∨ k = w.heap.size + 1 + 1 + 1 + 1) w2 W)
        (fun pre X Y row hs hg hr => ⟨hs.1, HRP.out _ X Y hs.2.1 (fun k hk => hg.block k (Nat.lt_of_lt_of_le (HGL.out k hk) hs.2.2.size) (fun e => by have := (hr k e.symm).1; have := HGL.out k hk; omega)), chg_grown hs.2.2 hg (fun r e => (hr r e).1)⟩)
        (fun c pre X Y row hs hg hr => ⟨hs.1, ⟨HRP.out _ X Y hs.2.1.1 (fun k hk => hg.block k (Nat.lt_of_lt_of_le (HGL.out k hk) hs.2.2.size) (fun e => by have := (hr k e.symm).1; have := HGL.out k hk; omega)), (hg.block _ (blk_lt hs.2.1.2) (fun e => by have := (hr _ e.symm).1; omega)).trans hs.2.1.2⟩, chg_grown hs.2.2 hg (fun r e => (hr r e).1)⟩)
        ⟨⟨rfl, HI1.out⟩, HRP.out _ w1 w2 HR1.out (fun k hk => HB2.out.block k (by have := HGG.out k hk; omega)), Chg.refl _ _⟩
        (fun x a' W => ∃ Bx, w2.heap.size ≤ Bx ∧ W.heap[Bx]? = some (tmO (q x) (kidF t x)) ∧ a' = { tmps := #[tmV p t, .int .i64 d, .int .i64 b, vfMa g1 g2 g3, .pointer (some ⟨w.heap.size, 0, none⟩), .pointer (some ⟨w.heap.size + 1, 0, none⟩), .pointer (some ⟨w.heap.size + 1 + 1, 0, none⟩), .pointer (some ⟨w.heap.size + 1 + 1 + 1, 0, none⟩), .pointer (some ⟨w.heap.size + 1 + 1 + 1 + 1, 0, none⟩), .int .i64 (moreZ t x), .pointer (some ⟨Bx, 0, none⟩), vfMa g1 g2 g3, tmV p t, .int .i64 d, .int .i64 b, .bool true, .bool false, tmV p t, .func (.func 117) #[] #[.pointer (some ⟨w1.heap.size, 0, none⟩)], .int .i64 (moreZ t x), tmV (q x) (kidF t x), undef, undef, undef, undef, undef, undef, undef, undef, undef], defers := [] })
        (fun x a' _ X Y row hs hg hr => by obtain ⟨Bx, h1, h2, h3⟩ := hs; exact ⟨Bx, h1, (hg.block _ (blk_lt h2) (fun e => by obtain ⟨o, ho, hc⟩ := (hr _ e.symm).2; rw [h2] at ho; cases ho; cases hc)).trans h2, h3⟩)
        ?assign ?body ?done ?stop
      case assign =>
        rintro l pre x W K ⟨hA, hRW, hCW⟩ hK
        dsimp only [encK, tmV]
        have hAA := Aside0.mk hA
        have hb1 : Below W.heap.size W (W.alloc (tmO (q x) (kidF t x))) := below_alloc (Below.refl _ _) _
        have HKK := Aside0.mk (hK { tmps := #[tmV p t, .int .i64 d, .int .i64 b, vfMa g1 g2 g3, .pointer (some ⟨w.heap.size, 0, none⟩), .pointer (some ⟨w.heap.size + 1, 0, none⟩), .pointer (some ⟨w.heap.size + 1 + 1, 0, none⟩), .pointer (some ⟨w.heap.size + 1 + 1 + 1, 0, none⟩), .pointer (some ⟨w.heap.size + 1 + 1 + 1 + 1, 0, none⟩), .int .i64 (moreZ t x), .pointer (some ⟨W.heap.size, 0, none⟩), vfMa g1 g2 g3, tmV p t, .int .i64 d, .int .i64 b, .bool true, .bool false, tmV p t, .func (.func 117) #[] #[.pointer (some ⟨w1.heap.size, 0, none⟩)], .int .i64 (moreZ t x), tmV (q x) (kidF t x), undef, undef, undef, undef, undef, undef, undef, undef, undef], defers := [] } _ (KeepsFrom.of_chg (Chg.of_below (S := fun _ => False) hb1) (fun k h => h.elim)) ⟨hb1.size, fun k hk _ => hb1.block k (by have := hCW.size; omega)⟩ ⟨hA, HRP.out _ _ _ hRW (fun k hk => hb1.block k (by have := HGL.out k hk; have := hCW.size; omega)), chg_trans hCW (Chg.of_below hb1)⟩ ⟨W.heap.size, hCW.size, blk_new _ _, rfl⟩)
        clear hK hA hAA hb1
        gi_wp2
        exact HKK.out
      case body =>
        rintro l pre x a' W hl ⟨r, hr⟩ ⟨⟨hA, hIv⟩, hRW, hCW⟩ ⟨Bx, hBx, bX, rfl⟩ hlt
        obtain ⟨sp, hsp⟩ : ∃ sp, runL (fun (i : Fin (nK t)) s => foldP F (kidF t i) (d + 1) (b + moreZ t i) s) pre s1 = (true, sp) := ⟨_, Prod.ext hA rfl⟩
        rw [hsp] at hIv hRW
        have HSP := Aside0.mk hsp
        obtain ⟨ev, s2, hev⟩ : ∃ ev s2, foldP F (kidF t x) (d + 1) (b + moreZ t x) sp = (ev, s2) := ⟨_, _, rfl⟩
        have HEV := Aside0.mk hev
        have HSN := Aside0.mk (show runL (fun (i : Fin (nK t)) s => foldP F (kidF t i) (d + 1) (b + moreZ t i) s) (pre ++ [x]) s1 = (ev, s2) by rw [runL_snoc, hsp]; exact hev)
        have HIV2 := Aside0.mk (show ev = true → Inv s2 from fun h => by have := HINV.out _ (kidF t x) (Nat.lt_succ_self _) (d + 1) (b + moreZ t x) sp (HPK.out x) hIv (by rw [hev]; exact h); rwa [hev] at this)
        have HIV := Aside0.mk hIv
        have HRW := Aside0.mk hRW
        have HCW := Aside0.mk hCW
        have HKD := Aside0.mk ((HQ.out x _ (kidF_get t x)).2.same (w' := W) fun k hk hz => hCW.block k hz (fun h => by have := (HG.out k h).1; omega))
        have hszW := hCW.size
        have st : ∀ j, w.heap.size ≤ j → j < w1.heap.size → W.heap[j]? = w1.heap[j]? := fun j h1 h2 => (hCW.block j (by omega) (HGN.out j h1)).trans (HB2.out.block j h2)
        have c1 : W.cell? ⟨w.heap.size + 1, 0, none⟩ = some (.int .i64 d) := by rw [cell_of_row _ _ _ _ _ _ ((st _ (by omega) (by omega)).trans HX11.out)]; rfl
        have c2 : W.cell? ⟨w.heap.size + 1 + 1, 0, none⟩ = some (.int .i64 b) := by rw [cell_of_row _ _ _ _ _ _ ((st _ (by omega) (by omega)).trans HX21.out)]; rfl
        have c3 : W.cell? ⟨w.heap.size + 1 + 1 + 1, 0, none⟩ = some (vfMa g1 g2 g3) := by rw [cell_of_row _ _ _ _ _ _ ((st _ (by omega) (by omega)).trans HX31.out)]; rfl
        have X4 := Aside0.mk ((st _ (by omega) (by omega)).trans HX41.out)
        obtain ⟨b0, b1, b2, b3, b4, b5, b6, b7⟩ := row8 bX
        obtain ⟨hd0, hd1⟩ := hd
        have hmz := moreZ_in t x
        obtain ⟨hm0, hm1⟩ := hmz
        have HMZ := Aside0.mk (show b + moreZ t x ≤ d + 1 by omega)
        clear hA hIv hRW hCW hsp hev st bX hr hlt
        cases ev with
        | true =>
          gi_wp2
          refine ⟨trivial, ?_⟩
          gi_at_call 58
          refine (CallsIn.inRound l (callsIn_wide.2 (IH.out (kidF t x) (by have := kidF_lt t x; have := HNN.out; omega) (q x) (d + 1) (b + moreZ t x) sp W (HPK.out x) (by omega) HMZ.out HIV.out (by omega) HKD.out HRW.out))).mono ?_
          rintro e w3 ⟨rfl, hR3, hC3⟩
          rw [HEV.out] at hR3 ⊢
          have HR3 := Aside0.mk hR3
          have HC3 := Aside0.mk hC3
          clear hR3 hC3
          gi_wp2
          refine ⟨KeepsFrom.of_chg HC3.out HGL.out, ⟨HC3.out.size, fun k hk hg => HC3.out.block k (by omega) hg⟩, ⟨?_, ?_⟩, ?_, chg_trans HCW.out HC3.out⟩
          · rw [HSN.out]
          · rw [HSN.out]; exact HIV2.out (by simp)
          · rw [HSN.out]; exact HR3.out
        | false =>
          gi_wp2
          refine ⟨trivial, ?_⟩
          gi_at_call 58
          refine (CallsIn.inRound l (callsIn_wide.2 (IH.out (kidF t x) (by have := kidF_lt t x; have := HNN.out; omega) (q x) (d + 1) (b + moreZ t x) sp W (HPK.out x) (by omega) HMZ.out HIV.out (by omega) HKD.out HRW.out))).mono ?_
          rintro e w3 ⟨rfl, hR3, hC3⟩
          rw [HEV.out] at hR3 ⊢
          have HR3 := Aside0.mk hR3
          have HC3 := Aside0.mk hC3
          have hx4 := (hC3.block _ (by omega) (HGN.out _ (by omega))).trans X4.out
          have X43 := Aside0.mk hx4
          have c4 : w3.cell? ⟨w.heap.size + 1 + 1 + 1 + 1, 0, none⟩ = some (.bool false) := by (rw [cell_of_row _ _ _ _ _ _ hx4]; rfl)
          have f4 := blk_frozen hx4 0
          clear hR3 hC3 hx4
          gi_wp2
          have hch := chg_set w3 (w.heap.size + 1 + 1 + 1 + 1) 0 (.bool false)
          have hsz3 := HC3.out.size
          refine ⟨KeepsFrom.of_chg (S := fun k => G k ∨ k = w.heap.size + 1 + 1 + 1 + 1) (chg_trans (HC3.out.mono fun k h => .inl h) (hch.mono fun k h => .inr h)) (fun k h => h.elim (fun h => HGL.out k h) (fun h => by omega)), ⟨rfl, ?_⟩, ⟨?_, ?_⟩, ?_⟩
          · rw [HSN.out]
          · rw [HSN.out]; exact HRP.out _ _ _ HR3.out fun k hk => hch.block k (by have := HGL.out k hk; omega) (fun e => HGN.out k (by have e : k = _ := e; omega) hk)
          · exact blk_put X43.out 0 _ rfl
          · exact chg_trans (HCW.out.mono fun k h => .inl h) (chg_trans (HC3.out.mono fun k h => .inl h) (hch.mono fun k h => .inr h))
      case done =>
        rintro D ys W hD rfl ⟨⟨hA, hIv⟩, hRW, hCW⟩ hK
        obtain ⟨sp, hsp⟩ : ∃ sp, runL (fun (i : Fin (nK t)) s => foldP F (kidF t i) (d + 1) (b + moreZ t i) s) (List.finRange (nK t)) s1 = (true, sp) := ⟨_, Prod.ext hA rfl⟩
        rw [hsp] at hRW
        have HRES := Aside0.mk hsp
        have hszW := hCW.size
        have hx4 := (hCW.block _ (by omega) (HGN.out _ (by omega))).trans ((HB2.out.block _ (by omega)).trans HX41.out)
        have X4 := Aside0.mk hx4
        have HRW := Aside0.mk hRW
        have HCW := Aside0.mk hCW
        have HKD := Aside0.mk hK
        have c4 : W.cell? ⟨w.heap.size + 1 + 1 + 1 + 1, 0, none⟩ = some (.bool false) := by (rw [cell_of_row _ _ _ _ _ _ hx4]; rfl)
        have f4 := blk_frozen hx4 0
        clear hA hIv hsp hRW hCW hx4 hK
        gi_wp2
        have hch := chg_set W (w.heap.size + 1 + 1 + 1 + 1) 0 (.bool true)
        obtain ⟨WW, hWW⟩ : ∃ WW, WW = W.setCell ⟨w.heap.size + 1 + 1 + 1 + 1, 0, none⟩ (.bool true) := ⟨_, rfl⟩
        have hx5 : WW.heap[w.heap.size + 1 + 1 + 1 + 1]? = some (.cells #[.bool true] 4 (0, 0)) := by rw [hWW]; exact blk_put X4.out 0 _ rfl
        rw [← hWW] at hch ⊢
        clear hWW
        have hszV := hch.size
        have hKW : WW.heap[D]? = some (.deferred (some [])) := (hch.block D (blk_lt HKD.out) (by omega)).trans HKD.out
        have hRWW : Rep sp WW := HRP.out _ _ _ HRW.out fun k hk => hch.block k (by have := HGL.out k hk; omega) (fun e => HGN.out k (by have e : k = _ := e; omega) hk)
        have hCWW : Chg (fun k => G k ∨ w.heap.size ≤ k) w2 WW := chg_trans (HCW.out.mono fun k h => .inl h) (hch.mono fun k h => .inr (by have h : k = _ := h; omega))
        have hgD : ∀ k, G k → k ≠ D := fun k hk e => by have := HGL.out k hk; omega
        have hp := chg_put WW D (.deferred none)
        have hc5 : (WW.putObj D (.deferred none)).cell? ⟨w.heap.size + 1 + 1 + 1 + 1, 0, none⟩ = some (.bool true) := by
          rw [cell_of_row _ _ _ _ _ _ ((hp.block _ (blk_lt hx5) (by omega)).trans hx5)]; rfl
        refine ⟨by simp, .inl ⟨_, _, rfl, run_takeDeferred hKW, ?_⟩⟩
        refine ⟨.bool true, ?_, ?_⟩
        · simp [results, Try.f58, go_sem, hc5]
        · rw [HE.out, HRES.out]
          refine ⟨rfl, HRP.out _ _ _ hRWW (fun k hk => hp.block k (by have := HGL.out k hk; omega) (hgD k hk)), ?_⟩
          refine chg_cut (Chg.of_below HB0.out) (HC1.out.mono fun k h => .inl h) (chg_trans (chg_trans (Chg.of_below HB2.out) hCWW) (hp.mono fun k h => .inr (by have h : k = D := h; omega)))
      case stop =>
        rintro D c pre WW hD hSp ⟨⟨rfl, hA⟩, ⟨hRWW, hx5⟩, hCW⟩ hKW
        obtain ⟨sp, hsp⟩ : ∃ sp, runL (fun (i : Fin (nK t)) s => foldP F (kidF t i) (d + 1) (b + moreZ t i) s) pre s1 = (false, sp) := ⟨_, Prod.ext hA rfl⟩
        have HRES := Aside0.mk (show runL (fun (i : Fin (nK t)) s => foldP F (kidF t i) (d + 1) (b + moreZ t i) s) (List.finRange (nK t)) s1 = (false, sp) by rw [runL_false _ hSp _ hA, hsp])
        rw [hsp] at hRWW
        have hszV := hCW.size
        have hCWW : Chg (fun k => G k ∨ w.heap.size ≤ k) w2 WW := hCW.mono fun k h => h.elim .inl fun h => .inr (by omega)
        clear hA hsp hSp hCW
        gi_wp2
        have hgD : ∀ k, G k → k ≠ D := fun k hk e => by have := HGL.out k hk; omega
        have hp := chg_put WW D (.deferred none)
        have hc5 : (WW.putObj D (.deferred none)).cell? ⟨w.heap.size + 1 + 1 + 1 + 1, 0, none⟩ = some (.bool false) := by
          rw [cell_of_row _ _ _ _ _ _ ((hp.block _ (blk_lt hx5) (by omega)).trans hx5)]; rfl
        refine ⟨by simp, .inl ⟨_, _, rfl, run_takeDeferred hKW, ?_⟩⟩
        refine ⟨.bool false, ?_, ?_⟩
        · simp [results, Try.f58, go_sem, hc5]
        · rw [HE.out, HRES.out]
          refine ⟨rfl, HRP.out _ _ _ hRWW (fun k hk => hp.block k (by have := HGL.out k hk; omega) (hgD k hk)), ?_⟩
          refine chg_cut (Chg.of_below HB0.out) (HC1.out.mono fun k h => .inl h) (chg_trans (chg_trans (Chg.of_below HB2.out) hCWW) (hp.mono fun k h => .inr (by have h : k = D := h; omega)))
end Go.Proofs.Ytdboloabpjmgaaa

/-! May -/
namespace Go.Proofs.Ytdboloabpjmgaaa
open Go.RowKit Go.Proofs.YtdboloabpjmgaaaW.PrintWords Go.RegionInvYtdboloabpjmgaaa

def mayF (v : Int) (l : Lv) (d s : Int) : Int × Int :=
  if 32 < d ∨ 100 < s + 1 then (2, s + 1) else if l.kind = 2 ∧ l.kids = [] then (if l.num < 0 ∨ v ≤ l.num then (10, s + 1) else (0, s + 1)) else if rightP l 1048576 0 = false then (1, s + 1) else (0, s + 1)
theorem mayF_long {v : Int} {l : Lv} {d s : Int} (h : 32 < d ∨ 100 < s + 1) : mayF v l d s = (2, s + 1) := if_pos h
theorem mayF_var {v : Int} {l : Lv} {d s : Int} (h : ¬ (32 < d ∨ 100 < s + 1)) (h2 : l.kind = 2 ∧ l.kids = []) : mayF v l d s = (if l.num < 0 ∨ v ≤ l.num then (10, s + 1) else (0, s + 1)) := (if_neg h).trans (if_pos h2)
theorem mayF_rest {v : Int} {l : Lv} {d s : Int} (h : ¬ (32 < d ∨ 100 < s + 1)) (h2 : ¬ (l.kind = 2 ∧ l.kids = [])) : mayF v l d s = (if rightP l 1048576 0 = false then (1, s + 1) else (0, s + 1)) := (if_neg h).trans (if_neg h2)
theorem mayF_small' {v : Int} {l : Lv} {d s : Int} (_hs : 0 ≤ s) (h : (mayF v l d s).1 = 0) : s + 1 ≤ 100 ∧ d ≤ 32 ∧ True ∧ mayF v l d s = (0, s + 1) := by
  by_cases h1 : 32 < d ∨ 100 < s + 1
  · rw [mayF_long h1] at h; simp at h
  · refine ⟨by omega, by omega, trivial, ?_⟩
    by_cases h2 : l.kind = 2 ∧ l.kids = []
    · rw [mayF_var h1 h2] at h ⊢
      split at h
      · simp at h
      · rename_i h3; rw [if_neg h3]
    · rw [mayF_rest h1 h2] at h ⊢
      split at h
      · simp at h
      · rename_i h3; rw [if_neg h3]
theorem mayF_small (v : Int) : Small (mayF v) 100 := fun l d s h0 h => by
  have := mayF_small' h0 h
  rw [this.2.2.2]
  exact ⟨by show 0 ≤ s + 1; omega, this.1⟩
theorem NumAt.chg {w w' : World} {g gv : Nat} {s : Int} (h : NumAt w gv s) (hc : Chg (fun k => k = g) w w') (hne : g ≠ gv) : NumAt w' gv s := (hc.block gv (blk_lt h) (fun e => hne e.symm)).trans h
theorem right_at (A : Option Addr) (c : Nat) (l : Lv) (most mostV : Int) (m : Nat) (hm : m = l.kids.length) (hc : l.kids.length ≤ 9223372036854775807) (w : World) :
    Calls Try.prog 120 #[.agg #[.int .i64 l.kind, .int .i64 l.num, .slice A m c], .int .i64 most, .int .i64 mostV] w fun e w' => e = .returned (.bool (rightP l most mostV)) ∧ Below w.heap.size w w' := by
  subst hm
  exact right_calls A c l most mostV w hc
abbrev mayFn (g gv : Nat) : Value := .func (.func 119) #[] #[.pointer (some ⟨g, 0, none⟩), .pointer (some ⟨gv, 0, none⟩)]
set_option maxHeartbeats 4000000 in
theorem may1_calls (A : Option Addr) (c : Nat) (l : Lv) (d s v : Int) (g gv : Nat) (w : World) (hc : l.kids.length ≤ 9223372036854775807) (hg : NumAt w g s) (hgv : NumAt w gv v) (hne : g ≠ gv) (hs0 : 0 ≤ s) (hs1 : s ≤ 100) (hd0 : 0 ≤ d) (hd1 : d ≤ 33) :
    Calls Try.prog 119 #[lvV A c l, .int .i64 d, .pointer (some ⟨g, 0, none⟩), .pointer (some ⟨gv, 0, none⟩)] w (VisitPost w g (mayF v l d s)) := by
  have HG := Aside0.mk hg
  have hcell := hg.cell
  have hfz := blk_frozen hg 0
  have hc2 := (hg.alloc (.cells #[.int .i64 l.kind, .int .i64 l.num, .slice A l.kids.length c] 25 (0, 0))).cell
  have HC := Aside0.mk hc
  have hglt := blk_lt hg
  have hgvlt := blk_lt hgv
  have hgne : g ≠ w.heap.size := Nat.ne_of_lt hglt
  have hgvne : gv ≠ w.heap.size := Nat.ne_of_lt hgvlt
  have hcv := ((hgv.chg (chg_set w g 0 (.int .i64 (s + 1))) hne).alloc (.cells #[.int .i64 l.kind, .int .i64 l.num, .slice A l.kids.length c] 25 (0, 0))).cell
  have hcv0 := hgv.cell
  have hne' : gv ≠ g := fun e => hne e.symm
  obtain ⟨m, hm⟩ : ∃ m, m = l.kids.length := ⟨_, rfl⟩
  have HM := Aside0.mk hm
  clear hg hgv hc
  unfold lvV
  go_enter Try.func119, Try.ntmps119
  have hfin : NumAt ((w.setCell ⟨g, 0, none⟩ (.int .i64 (s + 1))).alloc (.cells #[.int .i64 l.kind, .int .i64 l.num, .slice A l.kids.length c] 25 (0, 0))) g (s + 1) := (HG.out.set _).alloc _
  have hch : Chg (fun k => k = g) w ((w.setCell ⟨g, 0, none⟩ (.int .i64 (s + 1))).alloc (.cells #[.int .i64 l.kind, .int .i64 l.num, .slice A l.kids.length c] 25 (0, 0))) := chg_trans (chg_set _ _ _ _) (chg_alloc _ _ _)
  have HF := Aside0.mk (And.intro hfin hch)
  rw [← hm] at hc2 hcv HF ⊢
  clear hfin hch hm
  by_cases h1 : 32 < d
  · have HE := Aside0.mk (mayF_long (v := v) (l := l) (s := s) (.inl h1))
    go_wp2
    go_ret
    rw [HE.out]
    exact ⟨rfl, HF.out.1, HF.out.2⟩
  · by_cases h2 : 100 < s + 1
    · have HE := Aside0.mk (mayF_long (v := v) (l := l) (d := d) (.inr h2))
      go_wp2
      go_ret
      rw [HE.out]
      exact ⟨rfl, HF.out.1, HF.out.2⟩
    · by_cases hk : l.kind = 2
      · have hk' : (l.kind == 2) = true := by simp [hk]
        by_cases hm0 : m = 0
        · have hkids : l.kids = [] := List.eq_nil_of_length_eq_zero (by rw [← HM.out]; exact hm0)
          have HE := Aside0.mk (mayF_var (v := v) (d := d) (s := s) (by omega) ⟨hk, hkids⟩)
          have hm0' : ((m : Int) == 0) = true := by simp [hm0]
          clear hkids hk hm0
          by_cases hn0 : l.num < 0
          · have HR := Aside0.mk (HE.out.trans (if_pos (.inl hn0)))
            go_wp2
            go_ret
            rw [HR.out]
            exact ⟨rfl, HF.out.1, HF.out.2⟩
          · by_cases hnv : v ≤ l.num
            · have HR := Aside0.mk (HE.out.trans (if_pos (.inr hnv)))
              go_wp2
              go_ret
              rw [HR.out]
              exact ⟨rfl, HF.out.1, HF.out.2⟩
            · have HR := Aside0.mk (HE.out.trans (if_neg (by omega)))
              go_wp2
              go_ret
              rw [HR.out]
              exact ⟨rfl, HF.out.1, HF.out.2⟩
        · have hm0' : ((m : Int) == 0) = false := by simp; omega
          have HE := Aside0.mk (mayF_rest (v := v) (d := d) (s := s) (by omega) (l := l) (fun h => hm0 (by rw [HM.out, h.2]; rfl)))
          clear hk
          cases hR : rightP l 1048576 0 with
          | false =>
            have HR := Aside0.mk hR
            have HE2 := Aside0.mk (HE.out.trans (if_pos hR))
            clear hR
            go_wp2_with (go_at_call 120; go_must (refine (right_at A c l 1048576 0 m HM.out HC.out _).mono ?_; rintro e w1 ⟨rfl, hb⟩; rw [HR.out]; have HB := Aside0.mk hb; clear hb))
            go_ret
            rw [HE2.out]
            exact ⟨rfl, HF.out.1.below HB.out, chg_trans HF.out.2 (Chg.of_below HB.out)⟩
          | true =>
            have HR := Aside0.mk hR
            have HE2 := Aside0.mk (HE.out.trans (if_neg (by rw [hR]; decide)))
            clear hR
            go_wp2_with (go_at_call 120; go_must (refine (right_at A c l 1048576 0 m HM.out HC.out _).mono ?_; rintro e w1 ⟨rfl, hb⟩; rw [HR.out]; have HB := Aside0.mk hb; clear hb))
            go_ret
            rw [HE2.out]
            exact ⟨rfl, HF.out.1.below HB.out, chg_trans HF.out.2 (Chg.of_below HB.out)⟩
      · have hk' : (l.kind == 2) = false := by simp [hk]
        have HE := Aside0.mk (mayF_rest (v := v) (d := d) (s := s) (by omega) (l := l) (fun h => hk h.1))
        clear hk
        cases hR : rightP l 1048576 0 with
        | false =>
          have HR := Aside0.mk hR
          have HE2 := Aside0.mk (HE.out.trans (if_pos hR))
          clear hR
          go_wp2_with (go_at_call 120; go_must (refine (right_at A c l 1048576 0 m HM.out HC.out _).mono ?_; rintro e w1 ⟨rfl, hb⟩; rw [HR.out]; have HB := Aside0.mk hb; clear hb))
          go_ret
          rw [HE2.out]
          exact ⟨rfl, HF.out.1.below HB.out, chg_trans HF.out.2 (Chg.of_below HB.out)⟩
        | true =>
          have HR := Aside0.mk hR
          have HE2 := Aside0.mk (HE.out.trans (if_neg (by rw [hR]; decide)))
          clear hR
          go_wp2_with (go_at_call 120; go_must (refine (right_at A c l 1048576 0 m HM.out HC.out _).mono ?_; rintro e w1 ⟨rfl, hb⟩; rw [HR.out]; have HB := Aside0.mk hb; clear hb))
          go_ret
          rw [HE2.out]
          exact ⟨rfl, HF.out.1.below HB.out, chg_trans HF.out.2 (Chg.of_below HB.out)⟩
theorem may1_at (A : Option Addr) (c : Nat) (k n : Int) (ks : List Lv) (m : Nat) (d s v : Int) (g gv : Nat) (w : World) (hm : m = ks.length) (hc : m ≤ 9223372036854775807) (hg : NumAt w g s) (hgv : NumAt w gv v) (hne : g ≠ gv) (hs0 : 0 ≤ s) (hs1 : s ≤ 100) (hd0 : 0 ≤ d) (hd1 : d ≤ 33) :
    Calls Try.prog 119 #[.agg #[.int .i64 k, .int .i64 n, .slice A m c], .int .i64 d, .pointer (some ⟨g, 0, none⟩), .pointer (some ⟨gv, 0, none⟩)] w (VisitPost w g (mayF v (.mk k n ks) d s)) := by
  subst hm
  exact may1_calls A c (.mk k n ks) d s v g gv w hc hg hgv hne hs0 hs1 hd0 hd1
set_option maxHeartbeats 4000000 in
theorem walk_may (v : Int) (gv : Nat) (N : Nat) : ∀ (l : Lv), SizeOf.sizeOf l < N → ∀ (A : Option Addr) (c : Nat) (d s : Int) (g B : Nat) (w : World), LvIn w B A c l → NumAt w g s → NumAt w gv v → g ≠ gv → B ≤ g → 0 ≤ s → s ≤ 100 → 0 ≤ d → d ≤ 33 →
    Calls Try.prog 110 #[lvV A c l, .int .i64 d, mayFn g gv] w (VisitPost w g (walkP (mayF v) l d s)) := by
  induction N with
  | zero => intro l h; omega
  | succ N ih =>
    rintro ⟨lk, ln, ks⟩ hN A c d s g B w hin hg hgv hne hBg hs0 hs1 hd0 hd1
    have IH := Aside0.mk ih
    have HIN := Aside0.mk hin
    have HG := Aside0.mk hg
    have HGV := Aside0.mk hgv
    have hlen := hin.len
    simp only [Lv.kids] at hlen
    have hl9 : ks.length ≤ 9223372036854775807 := by omega
    have hglt := blk_lt hg
    clear ih hin hg hgv hlen
    unfold mayFn lvV
    simp only [Lv.kind, Lv.num, Lv.kids]
    obtain ⟨m, hm⟩ : ∃ m, m = ks.length := ⟨_, rfl⟩
    rw [← hm] at hl9 ⊢
    have HM := Aside0.mk hm
    clear hm
    go_enter Try.func110, Try.ntmps110
    by_cases h1 : ((mayF v) (.mk lk ln ks) d s).1 = 0
    · have HE := Aside0.mk (walkP_go h1)
      have hsm := mayF_small' hs0 h1
      have HV := Aside0.mk hsm.2.2.2
      rw [HV.out] at HE
      simp only [Lv.kids] at HE
      have hs3 := hsm.1
      have hd3 := hsm.2.1
      clear h1 hsm
      go_wp2_with (go_at_call 119; go_must (refine (may1_at A c lk ln ks m d s v g gv _ HM.out hl9 (HG.out.alloc _) (HGV.out.alloc _) hne hs0 hs1 hd0 hd1).mono ?_; rintro e w1 ⟨rfl, hg1, hc1⟩; rw [HV.out] at hg1 ⊢; have HG1 := Aside0.mk hg1; have hbox := chg_cell hc1 (box_cell w #[.int .i64 lk, .int .i64 ln, .slice A m c] 25 2 _ rfl) (Nat.ne_of_gt hglt); have HC1 := Aside0.mk (chg_trans (chg_alloc _ _ _) hc1); clear hg1 hc1))
      go_loopw [21] (fun i wr => ∃ (k : Nat) (s' : Int), i = .int .i64 k ∧ k ≤ m ∧ 0 ≤ s' ∧ s' ≤ 100 ∧ Aside0 (walkKs (mayF v) (ks.drop k) (d + 1) s' = walkP (mayF v) (.mk lk ln ks) d s) ∧ Aside0 (NumAt wr g s') ∧ Aside0 (Chg (fun k => k = g) w wr)) (fun i _ => m - (intOf i).toNat)
      case atStart => exact ⟨0, s + 1, rfl, Nat.zero_le _, by omega, by omega, ⟨HE.out.symm⟩, HG1, HC1⟩
      case round =>
        clear HE HV HG1 HC1 hbox
        obtain ⟨k, s', rfl, hk, hs4, hs5, HE, HG1, HC1⟩ := hrel
        have HIN2 := Aside0.mk (LvIn.stay HIN.out (chg_below HC1.out hBg (Nat.le_of_lt (Nat.lt_of_le_of_lt hBg hglt))))
        by_cases hlt : k < m
        · have hlt2 : k < ks.length := by rw [← HM.out]; exact hlt
          obtain ⟨x, hx⟩ : ∃ x, ks[k]? = some x := ⟨_, List.getElem?_eq_getElem hlt2⟩
          obtain ⟨A', c', hcs, hin⟩ := HIN2.out.kid k x hx
          obtain ⟨ad, rfl, hc1, hc2, hc3⟩ := hcs.facts
          clear hcs
          have HX := Aside0.mk hx
          have HXIN := Aside0.mk hin
          clear hx hin hlt2
          have hglt2 := blk_lt HG1.out
          by_cases h2 : (walkP (mayF v) x (d + 1) s').1 = 0
          · have hsm := walkP_small (mayF_small v) x (d + 1) s' hs4 h2
            have HK := Aside0.mk ((walkKs_go (r := ks.drop (k + 1)) h2).symm.trans ((congrArg (fun l => walkKs (mayF v) l (d + 1) s') (drop_kid HX.out)).symm.trans HE.out))
            obtain ⟨e2, s2, hes⟩ : ∃ a b, walkP (mayF v) x (d + 1) s' = (a, b) := ⟨_, _, rfl⟩
            have HV := Aside0.mk hes
            rw [hes] at hsm h2 HK
            simp only at hsm h2 HK
            subst h2
            have hs6 := hsm.1
            have hs7 := hsm.2
            clear hes hsm
            go_wp2_with (go_at_call 110; go_must (refine (IH.out x (Nat.lt_of_lt_of_le (kid_small HX.out) (Nat.le_of_lt_succ hN)) A' c' (d + 1) s' g B _ (LvIn.stay HXIN.out ((Below.refl _ _).alloc (Nat.le_of_lt (Nat.lt_of_le_of_lt hBg hglt2)) _)) (HG1.out.alloc _) ((HGV.out.chg HC1.out hne).alloc _) hne hBg hs4 hs5 (by omega) (by omega)).mono ?_; rintro e w2 ⟨rfl, hg1, hc1⟩; rw [HV.out] at hg1 ⊢; have HG2 := Aside0.mk hg1; have HC2 := Aside0.mk (chg_trans HC1.out (chg_trans (chg_alloc _ _ _) hc1)); clear hg1 hc1))
            go_roundw
            case rel => exact ⟨k + 1, s2, by go_num, by omega, hs6, hs7, HK, HG2, HC2⟩
            case measure => (simp [intOf]; try omega)
          · have HK := Aside0.mk ((walkKs_stop (r := ks.drop (k + 1)) h2).symm.trans ((congrArg (fun l => walkKs (mayF v) l (d + 1) s') (drop_kid HX.out)).symm.trans HE.out))
            obtain ⟨e2, s2, hes⟩ : ∃ a b, walkP (mayF v) x (d + 1) s' = (a, b) := ⟨_, _, rfl⟩
            have HV := Aside0.mk hes
            rw [hes] at h2
            have h2' : (e2 != 0) = true := by simpa using h2
            clear hes h2
            go_wp2_with (go_at_call 110; go_must (refine (IH.out x (Nat.lt_of_lt_of_le (kid_small HX.out) (Nat.le_of_lt_succ hN)) A' c' (d + 1) s' g B _ (LvIn.stay HXIN.out ((Below.refl _ _).alloc (Nat.le_of_lt (Nat.lt_of_le_of_lt hBg hglt2)) _)) (HG1.out.alloc _) ((HGV.out.chg HC1.out hne).alloc _) hne hBg hs4 hs5 (by omega) (by omega)).mono ?_; rintro e w2 ⟨rfl, hg1, hc1⟩; rw [HV.out] at hg1 ⊢; have HG2 := Aside0.mk hg1; have HC2 := Aside0.mk (chg_trans HC1.out (chg_trans (chg_alloc _ _ _) hc1)); clear hg1 hc1))
            go_ret
            rw [← HK.out, HV.out]
            exact ⟨rfl, HG2.out, HC2.out⟩
        · obtain rfl : k = m := by omega
          have hlt' : decide ((k : Int) < k) = false := by simp
          have HW := Aside0.mk (show walkP (mayF v) (.mk lk ln ks) d s = (0, s') by rw [← HE.out, List.drop_of_length_le (by rw [← HM.out]; exact Nat.le_refl _), walkKs])
          go_wp2
          go_ret
          rw [HW.out]
          exact ⟨rfl, HG1.out, HC1.out⟩
    · have HE := Aside0.mk (walkP_stop h1)
      have h1' : (((mayF v) (.mk lk ln ks) d s).1 != 0) = true := by simp [h1]
      obtain ⟨e1, s1, hes⟩ : ∃ a b, (mayF v) (.mk lk ln ks) d s = (a, b) := ⟨_, _, rfl⟩
      have HV := Aside0.mk hes
      rw [hes] at h1'
      simp only at h1'
      clear h1 hes
      go_wp2_with (go_at_call 119; go_must (refine (may1_at A c lk ln ks m d s v g gv _ HM.out hl9 (HG.out.alloc _) (HGV.out.alloc _) hne hs0 hs1 hd0 hd1).mono ?_; rintro e w1 ⟨rfl, hg1, hc1⟩; rw [HV.out] at hg1 ⊢; have HG1 := Aside0.mk hg1; have HC1 := Aside0.mk (chg_trans (chg_alloc _ _ _) hc1); clear hg1 hc1))
      go_ret
      rw [HE.out, HV.out]
      exact ⟨rfl, HG1.out, HC1.out⟩
end Go.Proofs.Ytdboloabpjmgaaa

/-! LvM -/
namespace Go.Proofs.Ytdboloabpjmgaaa
open Go.RowKit Go.Proofs.YtdboloabpjmgaaaW.PrintWords Go.RegionInvYtdboloabpjmgaaa

theorem LvS.pair {w : World} {S : Nat → Prop} {g : Nat} {A A' : Option Addr} {c c' : Nat} {x y : Lv} {t : TypeId}
    (h : w.heap[g]? = some (.cells #[.int .i64 x.kind, .int .i64 x.num, .slice A x.kids.length c, .int .i64 y.kind, .int .i64 y.num, .slice A' y.kids.length c'] t (0, 0))) (hx : LvS w S A c x) (hy : LvS w S A' c' y) (hS : S g) (k n : Int) : LvS w S (some ⟨g, 0, none⟩) 2 (.mk k n [x, y]) := by
  have cell : ∀ (j : Nat) (v : Value), (#[.int .i64 x.kind, .int .i64 x.num, .slice A x.kids.length c, .int .i64 y.kind, .int .i64 y.num, .slice A' y.kids.length c'] : Array Value)[j]? = some v → w.cell? ((⟨g, 0, none⟩ : Addr).add j) = some v := fun j v hv => by
    rw [add_flat, cell_of_row _ _ _ _ _ _ h]; simpa using hv
  refine .mk (fun i => if i = 0 then A else A') (fun i => if i = 0 then c else c') (by simp) (by omega) (fun i z hz => ?_) (fun i z hz => ?_)
  · match i, hz with
    | 0, hz =>
      obtain rfl : x = z := by simpa using hz
      exact ⟨_, rfl, hS, rfl, cell 0 _ rfl, cell 1 _ rfl, cell 2 _ rfl⟩
    | 1, hz =>
      obtain rfl : y = z := by simpa using hz
      exact ⟨_, rfl, hS, rfl, cell 3 _ rfl, cell 4 _ rfl, cell 5 _ rfl⟩
    | i + 2, hz => simp at hz
  · match i, hz with
    | 0, hz =>
      obtain rfl : x = z := by simpa using hz
      exact hx
    | 1, hz =>
      obtain rfl : y = z := by simpa using hz
      exact hy
    | i + 2, hz => simp at hz
def mxP (a b : Lv) : Lv := .mk 4 0 [owP a, owP b]

theorem after_drew {w3 W w5 : World} (h : Below w3.heap.size w3 W) (h5 : Below W.heap.size W w5) : Below w3.heap.size w3 w5 := below_then h h.size h5
theorem got_after {w3 W w5 : World} {S : Nat → Prop} {A : Option Addr} {c : Nat} {l : Lv} (h : Below w3.heap.size w3 W) (hl : LvS w5 (fun b => S b ∨ W.heap.size ≤ b) A c l) : LvS w5 (fun b => S b ∨ w3.heap.size ≤ b) A c l :=
  hl.mono fun b hb _ => hb.imp id fun h' => Nat.le_trans h.size h'
theorem max_got {w w3 w6 : World} {S : Nat → Prop} {a b : Lv} {A5 A6 : Option Addr} {c5 c6 : Nat} {x y z : Value} {o : Obj} (ha : LvS w6 (fun b => (S b ∧ b < w.heap.size) ∨ w3.heap.size ≤ b) A5 c5 (owP a)) (hb : LvS w6 (fun b => (S b ∧ b < w.heap.size) ∨ w3.heap.size ≤ b) A6 c6 (owP b))
    (hB : Below w.heap.size w w6) (hx : w6.heap[w.heap.size + 1 + 1]? = some o) (hz : w3.heap.size = w.heap.size + 3) :
    LvGot w S (mxP a b) (.returned (.agg #[.int .i64 4, .int .i64 0, .slice (some ⟨w6.heap.size, 0, none⟩) 2 2])) ((((w6.alloc (.cells #[.int .i64 (owP a).kind, .int .i64 (owP a).num, .slice A5 (owP a).kids.length c5, .int .i64 (owP b).kind, .int .i64 (owP b).num, .slice A6 (owP b).kids.length c6] 25 (0, 0))).setCell ⟨w.heap.size + 1 + 1, 0, none⟩ x).setCell ⟨w.heap.size + 1 + 1, 1, none⟩ y).setCell ⟨w.heap.size + 1 + 1, 2, none⟩ z) := by
  have hlt := blk_lt hx
  have hc1 := chg_set3 (w6.alloc (.cells #[.int .i64 (owP a).kind, .int .i64 (owP a).num, .slice A5 (owP a).kids.length c5, .int .i64 (owP b).kind, .int .i64 (owP b).num, .slice A6 (owP b).kids.length c6] 25 (0, 0))) (w.heap.size + 1 + 1) x y z
  have hch := chg_trans (chg_alloc (fun k => k = w.heap.size + 1 + 1) w6 (.cells #[.int .i64 (owP a).kind, .int .i64 (owP a).num, .slice A5 (owP a).kids.length c5, .int .i64 (owP b).kind, .int .i64 (owP b).num, .slice A6 (owP b).kids.length c6] 25 (0, 0))) hc1
  have hn := (hc1.block w6.heap.size (by simp) (by omega)).trans (blk_new w6 _)
  have conv : ∀ {A : Option Addr} {c : Nat} {l : Lv}, LvS w6 (fun b => (S b ∧ b < w.heap.size) ∨ w3.heap.size ≤ b) A c l → LvS _ (fun b => S b ∨ w.heap.size ≤ b) A c l := fun h =>
    (h.same fun b hb hz => hch.block b hz (by omega)).mono fun b hb _ => hb.elim (fun h => .inl h.1) fun h => .inr (by omega)
  exact ⟨_, 2, rfl, LvS.pair hn (conv ha) (conv hb) (.inr (by omega)) 4 0, Chg.trans_below hB hch (fun _ e => by omega) hB.size⟩
end Go.Proofs.Ytdboloabpjmgaaa

/-! Nf -/
namespace Go.Proofs.Ytdboloabpjmgaaa
open Go.RowKit Go.Proofs.YtdboloabpjmgaaaW.PrintWords Go.RegionInvYtdboloabpjmgaaa

/-- Whole numbers that can be read, in blocks of S. -/
def IntsS (w : World) (S : Nat → Prop) (A : Option Addr) (n : Nat) (ks : List Int) : Prop := ReadsInt w .i64 A n ks ∧ (0 < n → ∃ ad, A = some ad ∧ S ad.block)
theorem IntsS.same {w w' : World} {S : Nat → Prop} {A : Option Addr} {n : Nat} {ks : List Int} (h : IntsS w S A n ks) (hs : ∀ k, S k → k < w.heap.size → w'.heap[k]? = w.heap[k]?) : IntsS w' S A n ks := by
  refine ⟨⟨h.1.1, h.1.2.1, fun hn => ?_⟩, h.2⟩
  obtain ⟨ad, e, hc⟩ := h.1.2.2 hn
  obtain ⟨ad', e', hS⟩ := h.2 hn
  rw [e] at e'
  obtain rfl := Option.some.inj e'
  refine ⟨ad, e, fun j hj => ?_⟩
  have hb : (ad.add j).block = ad.block := add_block _ _
  have hx := hc j hj
  exact (cell_same (w := w) (w' := w') (by rw [hb]; exact hs _ hS (by have := World.block_lt_of_cell? w _ hx; rwa [hb] at this))).trans hx
theorem IntsS.later {w w' : World} {S : Nat → Prop} {A : Option Addr} {n : Nat} {ks : List Int} (h : IntsS w S A n ks) (hb : Below w.heap.size w w') : IntsS w' S A n ks := h.same fun k _ hk => hb.block k hk
theorem IntsS.mono {w : World} {S S' : Nat → Prop} {A : Option Addr} {n : Nat} {ks : List Int} (h : IntsS w S A n ks) (hS : ∀ k, S k → k < w.heap.size → S' k) : IntsS w S' A n ks := by
  refine ⟨h.1, fun hn => ?_⟩
  obtain ⟨ad, e, hs⟩ := h.2 hn
  obtain ⟨ad', e', hc⟩ := h.1.2.2 hn
  rw [e] at e'
  obtain rfl := Option.some.inj e'
  exact ⟨ad, e, hS _ hs (by have := World.block_lt_of_cell? w _ (hc 0 hn); rwa [add_block] at this)⟩
theorem IntsS.nil (w : World) (S : Nat → Prop) : IntsS w S none 0 [] := ⟨⟨rfl, by omega, fun h => absurd h (by omega)⟩, fun h => absurd h (by omega)⟩
theorem IntsS.of_own {w : World} {base : Nat} {e : TypeId} {v : Value} {n : Nat} {ks : List Int} (h : w.ownsRow base e 1 v n (nums .i64 ks)) : ∃ A c, v = .slice A n c ∧ n ≤ c ∧ IntsS w (fun b => base ≤ b) A n ks := by
  obtain ⟨A, c, rfl, hr⟩ := own_reads h
  refine ⟨A, c, rfl, own_cap h, hr, fun hn => ?_⟩
  obtain ⟨g, cap, hv, hb, _⟩ := h.form hn
  injection hv with hA
  exact ⟨_, hA, hb⟩

def atP (ks : List Int) (i : Int) : Int := if i < ks.length then rd ks i else -1
theorem atP_in {ks : List Int} {i : Int} (h : i < ks.length) : atP ks i = rd ks i := if_pos h
theorem atP_out {ks : List Int} {i : Int} (h : ¬ i < ks.length) : atP ks i = -1 := if_neg h
set_option maxHeartbeats 2000000 in
theorem at_calls (A : Option Addr) (n cap : Nat) (c : Int) (ks : List Int) (i : Int) (w : World) (hr : ReadsInt w .i64 A n ks) (h0 : 0 ≤ i) :
    Calls Try.prog 132 #[.agg #[.int .i64 c, .slice A n cap], .int .i64 i] w fun e w' => e = .returned (.int .i64 (atP ks i)) ∧ Below w.heap.size w w' := by
  have HR := Aside0.mk (hr.below ((Below.refl w.heap.size w).alloc (Nat.le_refl _) (.cells #[.int .i64 c, .slice A n cap] 102 (0, 0))))
  have hn := hr.1
  have hn9 := hr.2.1
  clear hr
  go_enter Try.func132, Try.ntmps132
  by_cases h1 : i < n
  · have HE := Aside0.mk (atP_in (ks := ks) (i := i) (by rw [hn]; exact h1))
    obtain ⟨ad, rfl, hc⟩ := HR.out.at_ i h0 h1
    clear hn
    go_wp2
    go_ret
    exact ⟨by rw [HE.out]; rfl, below_alloc (Below.refl _ _) _⟩
  · have HE := Aside0.mk (atP_out (ks := ks) (i := i) (by rw [hn]; exact h1))
    clear hn
    go_wp2
    go_ret
    exact ⟨by rw [HE.out]; rfl, below_alloc (Below.refl _ _) _⟩
/-- A sum that a call gives. -/
def NfGot (w : World) (S : Nat → Prop) (f : Int × List Int) (e : Ending) (w' : World) : Prop :=
  ∃ A n cap, e = .returned (.agg #[.int .i64 f.1, .slice A n cap]) ∧ n ≤ cap ∧ IntsS w' (fun b => S b ∨ w.heap.size ≤ b) A n f.2 ∧ Below w.heap.size w w'
theorem row2 {w : World} {g : Nat} {a b : Value} {t : TypeId} (h : w.heap[g]? = some (.cells #[a, b] t (0, 0))) :
    w.cell? ⟨g, 0, none⟩ = some a ∧ w.cell? ⟨g, 1, none⟩ = some b ∧ w.frozen? ⟨g, 0, none⟩ = false ∧ w.frozen? ⟨g, 1, none⟩ = false := by
  refine ⟨?_, ?_, blk_frozen h 0, blk_frozen h 1⟩ <;> (rw [cell_of_row _ _ _ _ _ _ h]; rfl)
theorem set2 {w : World} {g : Nat} {x y a b : Value} {t : TypeId} (h : w.heap[g]? = some (.cells #[x, y] t (0, 0))) :
    ((w.setCell ⟨g, 0, none⟩ a).setCell ⟨g, 1, none⟩ b).heap[g]? = some (.cells #[a, b] t (0, 0)) := blk_put (blk_put h 0 a rfl) 1 b rfl
theorem chg_set2 (w : World) (g : Nat) (a b : Value) : Chg (fun k => k = g) w ((w.setCell ⟨g, 0, none⟩ a).setCell ⟨g, 1, none⟩ b) := chg_trans (chg_set _ _ _ _) (chg_set _ _ _ _)

/-! ### So much more -/
def addN (k x : Int) : Int := if 0 ≤ x then min 1099511627776 (x + k) else x
def plusN (k : Int) (f : Int × List Int) : Int × List Int := (min 1099511627776 (f.1 + k), f.2.map (addN k))
end Go.Proofs.Ytdboloabpjmgaaa

/-! LvR -/
namespace Go.Proofs.Ytdboloabpjmgaaa
open Go.RowKit Go.Proofs.YtdboloabpjmgaaaW.PrintWords Go.RegionInvYtdboloabpjmgaaa

set_option maxHeartbeats 2000000 in
theorem arity_calls (k : Int) (w : World) : Calls Try.prog 115 #[.int .i64 k] w fun e w' => e = .returned (.int .i64 (arityP k)) ∧ w' = w := by
  go_enter Try.func115, Try.ntmps115
  by_cases h1 : k = 1
  · have H := Aside0.mk (arity_12 (.inl h1))
    have e1 : (k == 1) = true := by simp [h1]
    clear h1
    go_wp2
    go_ret
    exact ⟨by rw [H.out]; rfl, rfl⟩
  · have e1 : (k == 1) = false := by simp [h1]
    by_cases h2 : k = 2
    · have H := Aside0.mk (arity_12 (.inr h2))
      have e2 : (k == 2) = true := by simp [h2]
      clear h1 h2
      go_wp2
      go_ret
      exact ⟨by rw [H.out]; rfl, rfl⟩
    · have e2 : (k == 2) = false := by simp [h2]
      by_cases h3 : k = 3
      · have H := Aside0.mk (show arityP k = 1 by rw [h3]; decide)
        have e3 : (k == 3) = true := by simp [h3]
        clear h1 h2 h3
        go_wp2
        go_ret
        exact ⟨by rw [H.out]; rfl, rfl⟩
      · have e3 : (k == 3) = false := by simp [h3]
        by_cases h4 : k = 4
        · have H := Aside0.mk (show arityP k = 2 by rw [h4]; decide)
          have e4 : (k == 4) = true := by simp [h4]
          clear h1 h2 h3 h4
          go_wp2
          go_ret
          exact ⟨by rw [H.out]; rfl, rfl⟩
        · have H := Aside0.mk (arity_no h1 h2 h3 h4)
          have e4 : (k == 4) = false := by simp [h4]
          clear h1 h2 h3 h4
          go_wp2
          go_ret
          exact ⟨by rw [H.out]; rfl, rfl⟩


end Go.Proofs.Ytdboloabpjmgaaa

/-! LvRS -/
namespace Go.Proofs.Ytdboloabpjmgaaa
open Go.RowKit Go.Proofs.YtdboloabpjmgaaaW.PrintWords Go.RegionInvYtdboloabpjmgaaa

theorem one_ne {s : Int} : ((1 : Int), s).1 ≠ 0 := by show (1 : Int) ≠ 0; decide
theorem ref_bit {b : Bool} {s : Int} : (((if b = true then (0 : Int) else 1), s).1 == 0) = b := by cases b <;> rfl
theorem ref_leaf {k n : Int} {ks : List Lv} {d s : Int} (hk : k = 1 ∨ k = 2) (hm : (ks.length : Int) = arityP k) (hd : d ≤ 256) (hs : s + 1 ≤ 1000) : walkP sndF (.mk k n ks) d s = ((if rightP (.mk k n ks) 1099511627776 1000 = true then (0 : Int) else 1), s + 1) := by
  rw [arity_12 hk] at hm
  obtain rfl : ks = [] := List.eq_nil_of_length_eq_zero (by omega)
  cases hR : rightP (.mk k n []) 1099511627776 1000 with
  | false =>
    have h := sndF_bad (l := .mk k n []) (d := d) (s := s) (.inr (.inr hR))
    rw [walkP_stop (by rw [h]; exact one_ne), h]; rfl
  | true =>
    have h := sndF_ok (l := .mk k n []) (d := d) (s := s) (by rw [hR]; simp; omega)
    rw [walkP_go (by rw [h]), h]; rfl
def RefPost (w : World) (g : Nat) (r : Int × Int) (e : Ending) (w' : World) : Prop := e = .returned (.bool (r.1 == 0)) ∧ NumAt w' g r.2 ∧ Chg (fun k => k = g) w w'
set_option maxHeartbeats 4000000 in
theorem ref_sound (N : Nat) : ∀ (l : Lv), SizeOf.sizeOf l < N → ∀ (A : Option Addr) (c : Nat) (d s : Int) (g B : Nat) (w : World), LvIn w B A c l → NumAt w g s → B ≤ g → 0 ≤ s → s ≤ 1000 → 0 ≤ d → d ≤ 257 →
    Calls Try.prog 103 #[lvV A c l, .int .i64 d, .pointer (some ⟨g, 0, none⟩)] w (RefPost w g (walkP sndF l d s)) := by
  induction N with
  | zero => intro l h; omega
  | succ N ih =>
    rintro ⟨lk, ln, ks⟩ hN A c d s g B w hin hg hBg hs0 hs1 hd0 hd1
    have IH := Aside0.mk ih
    have HIN := Aside0.mk hin
    have HG := Aside0.mk hg
    have hcell := hg.cell
    have hfz := blk_frozen hg 0
    have hlen := hin.len
    simp only [Lv.kids] at hlen
    have hl9 : ks.length ≤ 9223372036854775807 := by omega
    have hglt := blk_lt hg
    have hgne : g ≠ w.heap.size := Nat.ne_of_lt hglt
    clear ih hin hg hlen
    unfold lvV
    simp only [Lv.kind, Lv.num, Lv.kids]
    obtain ⟨m, hm⟩ : ∃ m, m = ks.length := ⟨_, rfl⟩
    rw [← hm] at hl9 ⊢
    have HM := Aside0.mk hm
    clear hm
    have hfin : NumAt ((w.setCell ⟨g, 0, none⟩ (.int .i64 (s + 1))).alloc (.cells #[.int .i64 lk, .int .i64 ln, .slice A m c] 25 (0, 0))) g (s + 1) := (HG.out.set _).alloc _
    have hch : Chg (fun k => k = g) w ((w.setCell ⟨g, 0, none⟩ (.int .i64 (s + 1))).alloc (.cells #[.int .i64 lk, .int .i64 ln, .slice A m c] 25 (0, 0))) := chg_trans (chg_set _ _ _ _) (chg_alloc _ _ _)
    have HF := Aside0.mk (And.intro hfin hch)
    have hc2 := hfin.cell
    clear hfin hch
    go_enter Try.func103, Try.ntmps103
    by_cases h1 : 256 < d
    · have hw := Aside0.mk (show walkP sndF (.mk lk ln ks) d s = (1, s + 1) by rw [walkP_stop (by rw [sndF_bad (.inr (.inl h1))]; exact one_ne), sndF_bad (.inr (.inl h1))])
      go_upto_region 2 with (fail)
      go_quiet ((go_at_call 115; exact Calls.quiet_of_same (arity_calls _ _)))
      go_wp2
      go_ret
      rw [hw.out]
      exact ⟨rfl, HF.out.1, chg_drewN HF.out.2 _⟩
    · by_cases h2 : 1000 < s + 1
      · have hw := Aside0.mk (show walkP sndF (.mk lk ln ks) d s = (1, s + 1) by rw [walkP_stop (by rw [sndF_bad (.inl h2)]; exact one_ne), sndF_bad (.inl h2)])
        go_upto_region 2 with (fail)
        go_quiet ((go_at_call 115; exact Calls.quiet_of_same (arity_calls _ _)))
        go_wp2
        go_ret
        rw [hw.out]
        exact ⟨rfl, HF.out.1, chg_drewN HF.out.2 _⟩
      · by_cases h3 : (m : Int) = arityP lk
        · have h3' : ((m : Int) != arityP lk) = false := by simp [h3]
          have h3n : 0 ≤ arityP lk := by omega
          have HAR := Aside0.mk h3
          clear h3
          go_upto_region 2 with (fail)
          go_quiet ((go_at_call 115; exact Calls.quiet_of_same (arity_calls _ _)))
          go_upto_block 0 with (fail)
          go_cut [] (fun w2 => Aside0 (rightP (.mk lk ln ks) 1099511627776 1000 = true) ∧ Aside0 (NumAt w2 g (s + 1)) ∧ Aside0 (Chg (fun k => k = g) w w2) ∧ w2.cell? ⟨w.heap.size, 2, none⟩ = some (.slice A m c))
          case first =>
            have hbx : ((w.setCell ⟨g, 0, none⟩ (.int .i64 (s + 1))).alloc (.cells #[.int .i64 lk, .int .i64 ln, .slice A m c] 25 (0, 0))).cell? ⟨w.heap.size, 2, none⟩ = some (.slice A m c) := by
              have := box_cell (w.setCell ⟨g, 0, none⟩ (.int .i64 (s + 1))) #[.int .i64 lk, .int .i64 ln, .slice A m c] 25 2 (.slice A m c) rfl
              rwa [show (w.setCell ⟨g, 0, none⟩ (.int .i64 (s + 1))).heap.size = w.heap.size by simp [World.setCell]] at this
            have HBX := Aside0.mk hbx
            clear hbx
            by_cases k1 : lk = 1
            · have e1 : (lk == 1) = true := by simp [k1]
              have HL := Aside0.mk (ref_leaf (n := ln) (ks := ks) (d := d) (s := s) (.inl k1) (by rw [← HM.out]; exact HAR.out) (by omega) (by omega))
              have HRR := Aside0.mk (show rightP (.mk lk ln ks) 1099511627776 1000 = decide (0 ≤ ln ∧ ln ≤ 1099511627776) by rw [k1]; exact right_num (by rw [← HM.out, HAR.out, k1]))
              clear k1
              by_cases q1 : 0 ≤ ln
              · go_wp2
                go_ret
                exact ⟨congrArg (fun b => Ending.returned (.bool b)) (by rw [HL.out, ref_bit, HRR.out]; first | exact (decide_eq_true (by omega)).symm | exact decide_eq_decide.2 (by omega)), by rw [HL.out]; exact HF.out.1, chg_drewN HF.out.2 _⟩
              · go_wp2
                go_ret
                exact ⟨congrArg (fun b => Ending.returned (.bool b)) (by rw [HL.out, ref_bit, HRR.out]; exact (decide_eq_false (by omega)).symm), by rw [HL.out]; exact HF.out.1, chg_drewN HF.out.2 _⟩
            · have e1 : (lk == 1) = false := by simp [k1]
              by_cases k2 : lk = 2
              · have e2 : (lk == 2) = true := by simp [k2]
                have HL := Aside0.mk (ref_leaf (n := ln) (ks := ks) (d := d) (s := s) (.inr k2) (by rw [← HM.out]; exact HAR.out) (by omega) (by omega))
                have HRR := Aside0.mk (show rightP (.mk lk ln ks) 1099511627776 1000 = decide (0 ≤ ln ∧ ln ≤ 1000) by rw [k2]; exact right_var (by rw [← HM.out, HAR.out, k2]))
                clear k1 k2
                by_cases q1 : 0 ≤ ln
                · go_wp2
                  go_ret
                  exact ⟨congrArg (fun b => Ending.returned (.bool b)) (by rw [HL.out, ref_bit, HRR.out]; first | exact (decide_eq_true (by omega)).symm | exact decide_eq_decide.2 (by omega)), by rw [HL.out]; exact HF.out.1, chg_drewN HF.out.2 _⟩
                · go_wp2
                  go_ret
                  exact ⟨congrArg (fun b => Ending.returned (.bool b)) (by rw [HL.out, ref_bit, HRR.out]; exact (decide_eq_false (by omega)).symm), by rw [HL.out]; exact HF.out.1, chg_drewN HF.out.2 _⟩
              · have e2 : (lk == 2) = false := by simp [k2]
                by_cases k3 : lk = 3
                · have e3 : (lk == 3) = true := by simp [k3]
                  have hrr : rightP (.mk lk ln ks) 1099511627776 1000 = decide (1 ≤ ln ∧ ln ≤ 1099511627776) := by rw [k3]; exact right_succ (by rw [← HM.out, HAR.out, k3])
                  clear k1 k2 k3
                  by_cases q : 1 ≤ ln ∧ ln ≤ 1099511627776
                  · have HRT := Aside0.mk (hrr.trans (decide_eq_true q))
                    have q1 := q.1
                    have q2 := q.2
                    clear hrr q
                    go_wp2
                    go_meet
                    case rel => exact ⟨HRT, ⟨HF.out.1⟩, ⟨chg_drewN HF.out.2 _⟩, HBX.out⟩
                  · have hbad := hrr.trans (decide_eq_false q)
                    have hw := Aside0.mk (show walkP sndF (.mk lk ln ks) d s = (1, s + 1) by rw [walkP_stop (by rw [sndF_bad (.inr (.inr hbad))]; exact one_ne), sndF_bad (.inr (.inr hbad))])
                    clear hrr hbad
                    by_cases q1 : ln < 1
                    · go_wp2
                      go_ret
                      rw [hw.out]
                      exact ⟨rfl, HF.out.1, chg_drewN HF.out.2 _⟩
                    · have q2 : 1099511627776 < ln := by omega
                      go_wp2
                      go_ret
                      rw [hw.out]
                      exact ⟨rfl, HF.out.1, chg_drewN HF.out.2 _⟩
                · have e3 : (lk == 3) = false := by simp [k3]
                  have HRT := Aside0.mk (right_else (n := ln) (ks := ks) (most := 1099511627776) (mostV := 1000) (by rw [← HM.out]; exact HAR.out) k1 k2 k3)
                  clear k1 k2 k3
                  go_wp2
                  go_meet
                  case rel => exact ⟨HRT, ⟨HF.out.1⟩, ⟨chg_drewN HF.out.2 _⟩, HBX.out⟩
          case rest =>
            obtain ⟨HRT, HG0, HC0, hbox2⟩ := hcut
            have hok := sndF_ok (l := .mk lk ln ks) (d := d) (s := s) (by rw [HRT.out]; simp; omega)
            have hz : (sndF (.mk lk ln ks) d s).1 = 0 := by rw [hok]
            have HE := Aside0.mk (walkP_go hz)
            rw [hok] at HE
            simp only [Lv.kids] at HE
            have hs3 : s + 1 ≤ 1000 := by omega
            clear hok hz
            go_wp2
            go_loopw [72] (fun i wr => ∃ (k : Nat) (s' : Int), i = .int .i64 k ∧ k ≤ m ∧ 0 ≤ s' ∧ s' ≤ 1000 ∧ Aside0 (walkKs sndF (ks.drop k) (d + 1) s' = walkP sndF (.mk lk ln ks) d s) ∧ Aside0 (NumAt wr g s') ∧ Aside0 (Chg (fun k => k = g) w wr)) (fun i _ => m - (intOf i).toNat)
            case atStart => exact ⟨0, s + 1, rfl, Nat.zero_le _, by omega, by omega, ⟨HE.out.symm⟩, HG0, HC0⟩
            case round =>
              clear HE HG0 HC0 hbox2
              obtain ⟨k, s', rfl, hk, hs4, hs5, HE, HG1, HC1⟩ := hrel
              have HIN2 := Aside0.mk (LvIn.stay HIN.out (chg_below HC1.out hBg (Nat.le_of_lt (Nat.lt_of_le_of_lt hBg hglt))))
              by_cases hlt : k < m
              · have hlt2 : k < ks.length := by rw [← HM.out]; exact hlt
                obtain ⟨x, hx⟩ : ∃ x, ks[k]? = some x := ⟨_, List.getElem?_eq_getElem hlt2⟩
                obtain ⟨A', c', hcs, hin⟩ := HIN2.out.kid k x hx
                obtain ⟨ad, rfl, hc1, hc2, hc3⟩ := hcs.facts
                clear hcs
                have HX := Aside0.mk hx
                have HXIN := Aside0.mk hin
                clear hx hin hlt2
                have hglt2 := blk_lt HG1.out
                by_cases h2 : (walkP sndF x (d + 1) s').1 = 0
                · have hsm := walkP_small sndF_small x (d + 1) s' hs4 h2
                  have HK := Aside0.mk ((walkKs_go (r := ks.drop (k + 1)) h2).symm.trans ((congrArg (fun l => walkKs sndF l (d + 1) s') (drop_kid HX.out)).symm.trans HE.out))
                  obtain ⟨e2, s2, hes⟩ : ∃ a b, walkP sndF x (d + 1) s' = (a, b) := ⟨_, _, rfl⟩
                  have HV := Aside0.mk hes
                  rw [hes] at hsm h2 HK
                  simp only at hsm h2 HK
                  subst h2
                  have hs6 := hsm.1
                  have hs7 := hsm.2
                  clear hes hsm
                  go_wp2_with (go_at_call 103; go_must (refine (IH.out x (Nat.lt_of_lt_of_le (kid_small HX.out) (Nat.le_of_lt_succ hN)) A' c' (d + 1) s' g B _ (LvIn.stay HXIN.out ((Below.refl _ _).alloc (Nat.le_of_lt (Nat.lt_of_le_of_lt hBg hglt2)) _)) (HG1.out.alloc _) hBg hs4 hs5 (by omega) (by omega)).mono ?_; rintro e w2 ⟨rfl, hg1, hc1⟩; rw [HV.out] at hg1 ⊢; have HG2 := Aside0.mk hg1; have HC2 := Aside0.mk (chg_trans HC1.out (chg_trans (chg_alloc _ _ _) hc1)); clear hg1 hc1))
                  go_roundw
                  case rel => exact ⟨k + 1, s2, by go_num, by omega, hs6, hs7, HK, HG2, HC2⟩
                  case measure => (simp [intOf]; try omega)
                · have HK := Aside0.mk ((walkKs_stop (r := ks.drop (k + 1)) h2).symm.trans ((congrArg (fun l => walkKs sndF l (d + 1) s') (drop_kid HX.out)).symm.trans HE.out))
                  obtain ⟨e2, s2, hes⟩ : ∃ a b, walkP sndF x (d + 1) s' = (a, b) := ⟨_, _, rfl⟩
                  have HV := Aside0.mk hes
                  rw [hes] at h2
                  have h2' : (e2 == 0) = false := by simpa using h2
                  clear hes h2
                  go_wp2_with (go_at_call 103; go_must (refine (IH.out x (Nat.lt_of_lt_of_le (kid_small HX.out) (Nat.le_of_lt_succ hN)) A' c' (d + 1) s' g B _ (LvIn.stay HXIN.out ((Below.refl _ _).alloc (Nat.le_of_lt (Nat.lt_of_le_of_lt hBg hglt2)) _)) (HG1.out.alloc _) hBg hs4 hs5 (by omega) (by omega)).mono ?_; rintro e w2 ⟨rfl, hg1, hc1⟩; rw [HV.out] at hg1 ⊢; have HG2 := Aside0.mk hg1; have HC2 := Aside0.mk (chg_trans HC1.out (chg_trans (chg_alloc _ _ _) hc1)); clear hg1 hc1))
                  go_ret
                  rw [← HK.out, HV.out]
                  exact ⟨by simp [h2'], HG2.out, HC2.out⟩
              · obtain rfl : k = m := by omega
                have hlt' : decide ((k : Int) < k) = false := by simp
                have HW := Aside0.mk (show walkP sndF (.mk lk ln ks) d s = (0, s') by rw [← HE.out, List.drop_of_length_le (by rw [← HM.out]; exact Nat.le_refl _), walkKs])
                go_wp2
                go_ret
                rw [HW.out]
                exact ⟨rfl, HG1.out, HC1.out⟩
        · have hbad : rightP (.mk lk ln ks) 1099511627776 1000 = false := right_bad (by rw [← HM.out]; exact h3)
          have hw := Aside0.mk (show walkP sndF (.mk lk ln ks) d s = (1, s + 1) by rw [walkP_stop (by rw [sndF_bad (.inr (.inr hbad))]; exact one_ne), sndF_bad (.inr (.inr hbad))])
          have h3' : ((m : Int) != arityP lk) = true := by simp [h3]
          clear hbad h3
          go_upto_region 2 with (fail)
          by_cases h4 : arityP lk < 0
          · go_quiet ((go_at_call 115; exact Calls.quiet_of_same (arity_calls _ _)))
            go_wp2
            go_ret
            rw [hw.out]
            exact ⟨rfl, HF.out.1, chg_drewN HF.out.2 _⟩
          · go_quiet ((go_at_call 115; exact Calls.quiet_of_same (arity_calls _ _)))
            go_wp2
            go_ret
            rw [hw.out]
            exact ⟨rfl, HF.out.1, chg_drewN HF.out.2 _⟩
end Go.Proofs.Ytdboloabpjmgaaa

/-! MayR -/
namespace Go.Proofs.Ytdboloabpjmgaaa
open Go.RowKit Go.Proofs.YtdboloabpjmgaaaW.PrintWords Go.RegionInvYtdboloabpjmgaaa

/-- What May tells. -/
def mayB (v : Int) (l : Lv) : Int := (walkP (mayF v) l 1 0).1
set_option maxHeartbeats 4000000 in
theorem may_calls (A : Option Addr) (c : Nat) (l : Lv) (v : Int) (w : World) (hin : LvIn w w.heap.size A c l) :
    Calls Try.prog 105 #[lvV A c l, .int .i64 v] w fun e w' => e = .returned (.int .i64 (mayB v l)) ∧ Below w.heap.size w w' := by
  have HIN := Aside0.mk hin
  clear hin
  unfold lvV
  go_enter Try.func105, Try.ntmps105
  obtain ⟨w3, hw3⟩ : ∃ w3, w3 = (((w.alloc (.cells #[.int .i64 l.kind, .int .i64 l.num, .slice A l.kids.length c] 25 (0, 0))).alloc (.cells #[.int .i64 v] 3 (0, 0))).alloc (.cells #[.int .i64 0] 3 (0, 0))) := ⟨_, rfl⟩
  have hnew : NumAt w3 (w.heap.size + 1 + 1) 0 := by
    have := blk_new ((w.alloc (.cells #[.int .i64 l.kind, .int .i64 l.num, .slice A l.kids.length c] 25 (0, 0))).alloc (.cells #[.int .i64 v] 3 (0, 0))) (.cells #[.int .i64 0] 3 (0, 0))
    rw [hw3]
    simpa [NumAt] using this
  have hvar : NumAt w3 (w.heap.size + 1) v := by
    have := blk_alloc (blk_new (w.alloc (.cells #[.int .i64 l.kind, .int .i64 l.num, .slice A l.kids.length c] 25 (0, 0))) (.cells #[.int .i64 v] 3 (0, 0))) (.cells #[.int .i64 0] 3 (0, 0))
    rw [hw3]
    simpa [NumAt] using this
  have hb3 : Below w.heap.size w w3 := by rw [hw3]; exact below_alloc (below_alloc (below_alloc (Below.refl _ _) _) _) _
  have HNEW := Aside0.mk hnew
  have HVAR := Aside0.mk hvar
  have HB3 := Aside0.mk hb3
  have HW3 := Aside0.mk hw3
  clear hnew hvar hb3 hw3
  go_wp2_with (go_at_call 110; go_must (rw [← HW3.out]; refine (walk_may v (w.heap.size + 1) _ l (Nat.lt_succ_self _) A c 1 0 (w.heap.size + 1 + 1) w.heap.size _ (LvIn.stay HIN.out HB3.out) HNEW.out HVAR.out (by omega) (by omega) (by decide) (by decide) (by decide) (by decide)).mono ?_; rintro e w1 ⟨rfl, -, hc⟩; have HB := Aside0.mk (Chg.trans_below HB3.out hc (fun _ e => by omega) HB3.out.size); clear hc))
  go_ret
  exact ⟨rfl, HB.out⟩
theorem may_bad {v : Int} {l : Lv} {d s : Int} {e : Int} (h : mayF v l d s = (e, s + 1)) (he : e ≠ 0) : walkP (mayF v) l d s = (e, s + 1) := by rw [walkP_stop (by rw [h]; exact he), h]
set_option maxRecDepth 4000 in
set_option maxHeartbeats 8000000 in
theorem ref_may (v : Int) (N : Nat) : ∀ (l : Lv), SizeOf.sizeOf l < N → ∀ (A : Option Addr) (c : Nat) (d s : Int) (g B : Nat) (w : World), LvIn w B A c l → NumAt w g s → B ≤ g → 0 ≤ s → s ≤ 100 → 0 ≤ d → d ≤ 33 →
    Calls Try.prog 89 #[lvV A c l, .int .i64 v, .int .i64 d, .pointer (some ⟨g, 0, none⟩)] w (VisitPost w g (walkP (mayF v) l d s)) := by
  induction N with
  | zero => intro l h; omega
  | succ N ih =>
    rintro ⟨lk, ln, ks⟩ hN A c d s g B w hin hg hBg hs0 hs1 hd0 hd1
    have IH := Aside0.mk ih
    have HIN := Aside0.mk hin
    have HG := Aside0.mk hg
    have hcell := hg.cell
    have hfz := blk_frozen hg 0
    have hlen := hin.len
    simp only [Lv.kids] at hlen
    have hl9 : ks.length ≤ 9223372036854775807 := by omega
    have hglt := blk_lt hg
    have hgne : g ≠ w.heap.size := Nat.ne_of_lt hglt
    clear ih hin hg hlen
    unfold lvV
    simp only [Lv.kind, Lv.num, Lv.kids]
    obtain ⟨m, hm⟩ : ∃ m, m = ks.length := ⟨_, rfl⟩
    rw [← hm] at hl9 ⊢
    have HM := Aside0.mk hm
    clear hm
    have hfin : NumAt ((w.setCell ⟨g, 0, none⟩ (.int .i64 (s + 1))).alloc (.cells #[.int .i64 lk, .int .i64 ln, .slice A m c] 25 (0, 0))) g (s + 1) := (HG.out.set _).alloc _
    have hch : Chg (fun k => k = g) w ((w.setCell ⟨g, 0, none⟩ (.int .i64 (s + 1))).alloc (.cells #[.int .i64 lk, .int .i64 ln, .slice A m c] 25 (0, 0))) := chg_trans (chg_set _ _ _ _) (chg_alloc _ _ _)
    have HF := Aside0.mk (And.intro hfin hch)
    have hc2 := hfin.cell
    clear hfin hch
    go_enter Try.func89, Try.ntmps89
    by_cases h1 : 32 < d
    · have hw := Aside0.mk (may_bad (mayF_long (v := v) (l := .mk lk ln ks) (s := s) (.inl h1)) (by decide))
      go_wp2
      go_ret
      rw [hw.out]
      exact ⟨rfl, HF.out.1, HF.out.2⟩
    · by_cases h2 : 100 < s + 1
      · have hw := Aside0.mk (may_bad (mayF_long (v := v) (l := .mk lk ln ks) (d := d) (.inr h2)) (by decide))
        go_wp2
        go_ret
        rw [hw.out]
        exact ⟨rfl, HF.out.1, HF.out.2⟩
      · by_cases h3 : (m : Int) = arityP lk
        · have h3' : ((m : Int) != arityP lk) = false := by simp [h3]
          have h3n : 0 ≤ arityP lk := by omega
          have HAR := Aside0.mk h3
          clear h3
          go_upto_block 0 with (fail)
          go_cut [] (fun w2 => Aside0 (mayF v (.mk lk ln ks) d s = (0, s + 1)) ∧ Aside0 (NumAt w2 g (s + 1)) ∧ Aside0 (Chg (fun k => k = g) w w2) ∧ w2.cell? ⟨w.heap.size, 2, none⟩ = some (.slice A m c))
          case first =>
            have hbx : ((w.setCell ⟨g, 0, none⟩ (.int .i64 (s + 1))).alloc (.cells #[.int .i64 lk, .int .i64 ln, .slice A m c] 25 (0, 0))).cell? ⟨w.heap.size, 2, none⟩ = some (.slice A m c) := by
              have := box_cell (w.setCell ⟨g, 0, none⟩ (.int .i64 (s + 1))) #[.int .i64 lk, .int .i64 ln, .slice A m c] 25 2 (.slice A m c) rfl
              rwa [show (w.setCell ⟨g, 0, none⟩ (.int .i64 (s + 1))).heap.size = w.heap.size by simp [World.setCell]] at this
            have HBX := Aside0.mk hbx
            clear hbx
            by_cases k1 : lk = 1
            · have e1 : (lk == 1) = true := by simp [k1]
              have e2 : (lk == 2) = false := by simp [k1]
              have e3 : (lk == 3) = false := by simp [k1]
              have HR := Aside0.mk (mayF_rest (v := v) (l := .mk lk ln ks) (d := d) (s := s) (by omega) (fun h => by have := h.1; simp only [Lv.kind] at this; omega))
              have HRR := Aside0.mk (show rightP (.mk lk ln ks) 1048576 0 = decide (0 ≤ ln ∧ ln ≤ 1048576) by rw [k1]; exact right_num (by rw [← HM.out, HAR.out, k1]))
              clear k1
              by_cases q0 : ln < 0
              · have hw := Aside0.mk (may_bad (HR.out.trans (if_pos (by rw [HRR.out]; exact decide_eq_false (by omega)))) (by decide))
                go_upto_region 4 with (fail)
                go_quiet ((go_at_call 115; exact Calls.quiet_of_same (arity_calls _ _)))
                go_wp2
                go_ret
                rw [hw.out]
                exact ⟨rfl, HF.out.1, chg_drewN HF.out.2 _⟩
              · by_cases q1 : 1048576 < ln
                · have hw := Aside0.mk (may_bad (HR.out.trans (if_pos (by rw [HRR.out]; exact decide_eq_false (by omega)))) (by decide))
                  go_upto_region 4 with (fail)
                  go_quiet ((go_at_call 115; exact Calls.quiet_of_same (arity_calls _ _)))
                  go_wp2
                  go_ret
                  rw [hw.out]
                  exact ⟨rfl, HF.out.1, chg_drewN HF.out.2 _⟩
                · have HOK := Aside0.mk (HR.out.trans (if_neg (by rw [HRR.out, decide_eq_true (by omega)]; decide)))
                  go_upto_region 4 with (fail)
                  go_quiet ((go_at_call 115; exact Calls.quiet_of_same (arity_calls _ _)))
                  go_wp2
                  go_meet
                  case rel => exact ⟨HOK, ⟨HF.out.1⟩, ⟨chg_drewN HF.out.2 _⟩, HBX.out⟩
            · have e1 : (lk == 1) = false := by simp [k1]
              by_cases k2 : lk = 2
              · have e2 : (lk == 2) = true := by simp [k2]
                have e3 : (lk == 3) = false := by simp [k2]
                have HKS := Aside0.mk (show ks = [] from List.eq_nil_of_length_eq_zero (by have := HAR.out; rw [k2, ← HM.out] at *; simp [arityP] at this; omega))
                have HR := Aside0.mk (mayF_var (v := v) (l := .mk lk ln ks) (d := d) (s := s) (by omega) ⟨k2, HKS.out⟩)
                clear k1 k2
                by_cases q0 : ln < 0
                · have hw := Aside0.mk (may_bad (HR.out.trans (if_pos (.inl q0))) (by decide))
                  go_upto_region 4 with (fail)
                  go_quiet ((go_at_call 115; exact Calls.quiet_of_same (arity_calls _ _)))
                  go_wp2
                  go_ret
                  rw [hw.out]
                  exact ⟨rfl, HF.out.1, chg_drewN HF.out.2 _⟩
                · by_cases q1 : v ≤ ln
                  · have hw := Aside0.mk (may_bad (HR.out.trans (if_pos (.inr q1))) (by decide))
                    go_upto_region 4 with (fail)
                    go_quiet ((go_at_call 115; exact Calls.quiet_of_same (arity_calls _ _)))
                    go_wp2
                    go_ret
                    rw [hw.out]
                    exact ⟨rfl, HF.out.1, chg_drewN HF.out.2 _⟩
                  · have HOK := Aside0.mk (HR.out.trans (if_neg (by simp only [Lv.num]; omega)))
                    go_upto_region 4 with (fail)
                    go_quiet ((go_at_call 115; exact Calls.quiet_of_same (arity_calls _ _)))
                    go_wp2
                    go_meet
                    case rel => exact ⟨HOK, ⟨HF.out.1⟩, ⟨chg_drewN HF.out.2 _⟩, HBX.out⟩
              · have e2 : (lk == 2) = false := by simp [k2]
                have HR := Aside0.mk (mayF_rest (v := v) (l := .mk lk ln ks) (d := d) (s := s) (by omega) (fun h => k2 h.1))
                by_cases k3 : lk = 3
                · have e3 : (lk == 3) = true := by simp [k3]
                  have HRR := Aside0.mk (show rightP (.mk lk ln ks) 1048576 0 = decide (1 ≤ ln ∧ ln ≤ 1048576) by rw [k3]; exact right_succ (by rw [← HM.out, HAR.out, k3]))
                  clear k1 k2 k3
                  by_cases q0 : ln < 1
                  · have hw := Aside0.mk (may_bad (HR.out.trans (if_pos (by rw [HRR.out]; exact decide_eq_false (by omega)))) (by decide))
                    go_upto_region 4 with (fail)
                    go_quiet ((go_at_call 115; exact Calls.quiet_of_same (arity_calls _ _)))
                    go_wp2
                    go_ret
                    rw [hw.out]
                    exact ⟨rfl, HF.out.1, chg_drewN HF.out.2 _⟩
                  · by_cases q1 : 1048576 < ln
                    · have hw := Aside0.mk (may_bad (HR.out.trans (if_pos (by rw [HRR.out]; exact decide_eq_false (by omega)))) (by decide))
                      go_upto_region 4 with (fail)
                      go_quiet ((go_at_call 115; exact Calls.quiet_of_same (arity_calls _ _)))
                      go_wp2
                      go_ret
                      rw [hw.out]
                      exact ⟨rfl, HF.out.1, chg_drewN HF.out.2 _⟩
                    · have HOK := Aside0.mk (HR.out.trans (if_neg (by rw [HRR.out, decide_eq_true (by omega)]; decide)))
                      go_upto_region 4 with (fail)
                      go_quiet ((go_at_call 115; exact Calls.quiet_of_same (arity_calls _ _)))
                      go_wp2
                      go_meet
                      case rel => exact ⟨HOK, ⟨HF.out.1⟩, ⟨chg_drewN HF.out.2 _⟩, HBX.out⟩
                · have e3 : (lk == 3) = false := by simp [k3]
                  have HOK := Aside0.mk (HR.out.trans (if_neg (by rw [right_else (n := ln) (ks := ks) (most := 1048576) (mostV := 0) (by rw [← HM.out]; exact HAR.out) k1 k2 k3]; decide)))
                  clear k1 k2 k3
                  go_upto_region 4 with (fail)
                  go_quiet ((go_at_call 115; exact Calls.quiet_of_same (arity_calls _ _)))
                  go_wp2
                  go_meet
                  case rel => exact ⟨HOK, ⟨HF.out.1⟩, ⟨chg_drewN HF.out.2 _⟩, HBX.out⟩
          case rest =>
            obtain ⟨HRT, HG0, HC0, hbox2⟩ := hcut
            have hz : (mayF v (.mk lk ln ks) d s).1 = 0 := by rw [HRT.out]
            have HE := Aside0.mk (walkP_go hz)
            rw [HRT.out] at HE
            simp only [Lv.kids] at HE
            have hs3 : s + 1 ≤ 100 := by omega
            clear hz
            go_wp2
            go_loopw [87] (fun i wr => ∃ (k : Nat) (s' : Int), i = .int .i64 k ∧ k ≤ m ∧ 0 ≤ s' ∧ s' ≤ 100 ∧ Aside0 (walkKs (mayF v) (ks.drop k) (d + 1) s' = walkP (mayF v) (.mk lk ln ks) d s) ∧ Aside0 (NumAt wr g s') ∧ Aside0 (Chg (fun k => k = g) w wr)) (fun i _ => m - (intOf i).toNat)
            case atStart => exact ⟨0, s + 1, rfl, Nat.zero_le _, by omega, by omega, ⟨HE.out.symm⟩, HG0, HC0⟩
            case round =>
              clear HE HG0 HC0 hbox2
              obtain ⟨k, s', rfl, hk, hs4, hs5, HE, HG1, HC1⟩ := hrel
              have HIN2 := Aside0.mk (LvIn.stay HIN.out (chg_below HC1.out hBg (Nat.le_of_lt (Nat.lt_of_le_of_lt hBg hglt))))
              by_cases hlt : k < m
              · have hlt2 : k < ks.length := by rw [← HM.out]; exact hlt
                obtain ⟨x, hx⟩ : ∃ x, ks[k]? = some x := ⟨_, List.getElem?_eq_getElem hlt2⟩
                obtain ⟨A', c', hcs, hin⟩ := HIN2.out.kid k x hx
                obtain ⟨ad, rfl, hc1, hc2, hc3⟩ := hcs.facts
                clear hcs
                have HX := Aside0.mk hx
                have HXIN := Aside0.mk hin
                clear hx hin hlt2
                have hglt2 := blk_lt HG1.out
                by_cases h2 : (walkP (mayF v) x (d + 1) s').1 = 0
                · have hsm := walkP_small (mayF_small v) x (d + 1) s' hs4 h2
                  have HK := Aside0.mk ((walkKs_go (r := ks.drop (k + 1)) h2).symm.trans ((congrArg (fun l => walkKs (mayF v) l (d + 1) s') (drop_kid HX.out)).symm.trans HE.out))
                  obtain ⟨e2, s2, hes⟩ : ∃ a b, walkP (mayF v) x (d + 1) s' = (a, b) := ⟨_, _, rfl⟩
                  have HV := Aside0.mk hes
                  rw [hes] at hsm h2 HK
                  simp only at hsm h2 HK
                  subst h2
                  have hs6 := hsm.1
                  have hs7 := hsm.2
                  clear hes hsm
                  go_wp2_with (go_at_call 89; go_must (refine (IH.out x (Nat.lt_of_lt_of_le (kid_small HX.out) (Nat.le_of_lt_succ hN)) A' c' (d + 1) s' g B _ (LvIn.stay HXIN.out ((Below.refl _ _).alloc (Nat.le_of_lt (Nat.lt_of_le_of_lt hBg hglt2)) _)) (HG1.out.alloc _) hBg hs4 hs5 (by omega) (by omega)).mono ?_; rintro e w2 ⟨rfl, hg1, hc1⟩; rw [HV.out] at hg1 ⊢; have HG2 := Aside0.mk hg1; have HC2 := Aside0.mk (chg_trans HC1.out (chg_trans (chg_alloc _ _ _) hc1)); clear hg1 hc1))
                  go_roundw
                  case rel => exact ⟨k + 1, s2, by go_num, by omega, hs6, hs7, HK, HG2, HC2⟩
                  case measure => (simp [intOf]; try omega)
                · have HK := Aside0.mk ((walkKs_stop (r := ks.drop (k + 1)) h2).symm.trans ((congrArg (fun l => walkKs (mayF v) l (d + 1) s') (drop_kid HX.out)).symm.trans HE.out))
                  obtain ⟨e2, s2, hes⟩ : ∃ a b, walkP (mayF v) x (d + 1) s' = (a, b) := ⟨_, _, rfl⟩
                  have HV := Aside0.mk hes
                  rw [hes] at h2
                  have h2' : (e2 != 0) = true := by simpa using h2
                  clear hes h2
                  go_wp2_with (go_at_call 89; go_must (refine (IH.out x (Nat.lt_of_lt_of_le (kid_small HX.out) (Nat.le_of_lt_succ hN)) A' c' (d + 1) s' g B _ (LvIn.stay HXIN.out ((Below.refl _ _).alloc (Nat.le_of_lt (Nat.lt_of_le_of_lt hBg hglt2)) _)) (HG1.out.alloc _) hBg hs4 hs5 (by omega) (by omega)).mono ?_; rintro e w2 ⟨rfl, hg1, hc1⟩; rw [HV.out] at hg1 ⊢; have HG2 := Aside0.mk hg1; have HC2 := Aside0.mk (chg_trans HC1.out (chg_trans (chg_alloc _ _ _) hc1)); clear hg1 hc1))
                  go_ret
                  rw [← HK.out, HV.out]
                  exact ⟨rfl, HG2.out, HC2.out⟩
              · obtain rfl : k = m := by omega
                have hlt' : decide ((k : Int) < k) = false := by simp
                have HW := Aside0.mk (show walkP (mayF v) (.mk lk ln ks) d s = (0, s') by rw [← HE.out, List.drop_of_length_le (by rw [← HM.out]; exact Nat.le_refl _), walkKs])
                go_wp2
                go_ret
                rw [HW.out]
                exact ⟨rfl, HG1.out, HC1.out⟩
        · have hbad : rightP (.mk lk ln ks) 1048576 0 = false := right_bad (by rw [← HM.out]; exact h3)
          have hw := Aside0.mk (may_bad ((mayF_rest (v := v) (l := .mk lk ln ks) (d := d) (s := s) (by omega) (fun h => h3 (by rw [HM.out, show lk = 2 from h.1, show ks = [] from h.2]; rfl))).trans (if_pos hbad)) (by decide))
          have h3' : ((m : Int) != arityP lk) = true := by simp [h3]
          clear hbad h3
          go_upto_region 4 with (fail)
          by_cases h4 : arityP lk < 0
          · go_quiet ((go_at_call 115; exact Calls.quiet_of_same (arity_calls _ _)))
            go_wp2
            go_ret
            rw [hw.out]
            exact ⟨rfl, HF.out.1, chg_drewN HF.out.2 _⟩
          · go_quiet ((go_at_call 115; exact Calls.quiet_of_same (arity_calls _ _)))
            go_wp2
            go_ret
            rw [hw.out]
            exact ⟨rfl, HF.out.1, chg_drewN HF.out.2 _⟩
end Go.Proofs.Ytdboloabpjmgaaa

/-! RefMay -/
namespace Go.Proofs.Ytdboloabpjmgaaa
open Go.RowKit Go.Proofs.YtdboloabpjmgaaaW.PrintWords Go.RegionInvYtdboloabpjmgaaa

set_option maxHeartbeats 4000000 in
theorem refMay_calls (A : Option Addr) (c : Nat) (l : Lv) (v : Int) (w : World) (hin : LvIn w w.heap.size A c l) :
    Calls Try.prog 53 #[lvV A c l, .int .i64 v] w fun e w' => e = .returned (.int .i64 (mayB v l)) ∧ Below w.heap.size w w' := by
  have HIN := Aside0.mk hin
  clear hin
  unfold lvV
  go_enter Try.func53, Try.ntmps53
  have hnew : NumAt ((w.alloc (.cells #[.int .i64 l.kind, .int .i64 l.num, .slice A l.kids.length c] 25 (0, 0))).alloc (.cells #[.int .i64 0] 3 (0, 0))) (w.heap.size + 1) 0 := by
    have := blk_new (w.alloc (.cells #[.int .i64 l.kind, .int .i64 l.num, .slice A l.kids.length c] 25 (0, 0))) (.cells #[.int .i64 0] 3 (0, 0))
    simpa [NumAt] using this
  have HNEW := Aside0.mk hnew
  clear hnew
  go_wp2_with (go_at_call 89; go_must (refine (ref_may v _ l (Nat.lt_succ_self _) A c 1 0 (w.heap.size + 1) w.heap.size _ (LvIn.stay HIN.out (below_alloc (below_alloc (Below.refl _ _) _) _)) HNEW.out (Nat.le_succ _) (by decide) (by decide) (by decide) (by decide)).mono ?_; rintro e w1 ⟨rfl, -, hc⟩; have HB := Aside0.mk (two_below hc); clear hc))
  go_ret
  exact ⟨rfl, HB.out⟩
end Go.Proofs.Ytdboloabpjmgaaa

/-! TName -/
namespace Go.Proofs.Ytdboloabpjmgaaa
open Go.RowKit Go.Proofs.YtdboloabpjmgaaaW.PrintWords Go.RegionInvYtdboloabpjmgaaa

/-- Byte i of a text. -/
def bt (s : ByteArray) (i : Nat) : Nat := (s.data.toList.getD i 0).toNat
theorem bt_get (s : ByteArray) (i : Nat) (h : i < s.size) : (s[i]'h).toNat = bt s i := by
  obtain ⟨⟨l⟩⟩ := s
  have hl : i < l.length := h
  unfold bt
  simp only [List.getD, List.getElem?_eq_getElem hl, Option.getD_some]
  rfl
def nchP (x : Nat) : Prop := 97 ≤ x ∧ x ≤ 122 ∨ 48 ≤ x ∧ x ≤ 57 ∨ x = 95 ∨ x = 46
instance (x : Nat) : Decidable (nchP x) := by unfold nchP; infer_instance
/-- May it be a name? -/
def NameP (s : ByteArray) : Prop := (1 ≤ s.size ∧ s.size ≤ 32) ∧ (97 ≤ bt s 0 ∧ bt s 0 ≤ 122) ∧ ∀ i, i < s.size → nchP (bt s i)
instance (s : ByteArray) : Decidable (NameP s) := by unfold NameP; infer_instance
def nameB (s : ByteArray) : Bool := decide (NameP s)
theorem name_no {s : ByteArray} (h : ¬ NameP s) : nameB s = false := decide_eq_false h
theorem name_yes {s : ByteArray} (h : NameP s) : nameB s = true := decide_eq_true h
set_option maxHeartbeats 4000000 in
theorem name_calls (s : ByteArray) (w : World) :
    Calls Try.prog 46 #[.string s] w fun e w' => e = .returned (.bool (nameB s)) ∧ Below w.heap.size w w' := by
  go_enter Try.func46, Try.ntmps46
  by_cases h1 : s.size < 1
  · have HR := Aside0.mk (name_no (s := s) (fun h => by have := h.1.1; omega))
    go_wp2
    go_ret
    rw [HR.out]
    exact ⟨rfl, Below.refl _ _⟩
  by_cases h2 : 32 < s.size
  · have HR := Aside0.mk (name_no (s := s) (fun h => by have := h.1.2; omega))
    go_wp2
    go_ret
    rw [HR.out]
    exact ⟨rfl, Below.refl _ _⟩
  have h0 : 0 < s.size := by omega
  have hb0 := bt_get s 0 h0
  obtain ⟨x0, hx0⟩ : ∃ x0, x0 = bt s 0 := ⟨_, rfl⟩
  rw [← hx0] at hb0
  have HX0 := Aside0.mk hx0
  clear hx0
  by_cases h3 : x0 < 97
  · have HR := Aside0.mk (name_no (s := s) (fun h => by have := h.2.1.1; have := HX0.out; omega))
    go_wp2
    go_ret
    rw [HR.out]
    exact ⟨rfl, Below.refl _ _⟩
  by_cases h4 : 122 < x0
  · have HR := Aside0.mk (name_no (s := s) (fun h => by have := h.2.1.2; have := HX0.out; omega))
    go_wp2
    go_ret
    rw [HR.out]
    exact ⟨rfl, Below.refl _ _⟩
  go_wp2
  go_loopw [25] (fun i wr => ∃ k : Nat, i = .int .i64 k ∧ k ≤ s.size ∧ Aside0 (∀ j, j < k → nchP (bt s j)) ∧ Aside0 (Below w.heap.size w wr)) (fun i _ => s.size - (intOf i).toNat)
  case atStart => exact ⟨0, rfl, Nat.zero_le _, ⟨fun j h => by omega⟩, ⟨Below.refl _ _⟩⟩
  case round =>
    obtain ⟨k, rfl, hk, HK, HBW⟩ := hrel
    by_cases hlt : k < s.size
    · have hbk := bt_get s k hlt
      obtain ⟨x, hx⟩ : ∃ x, x = bt s k := ⟨_, rfl⟩
      rw [← hx] at hbk
      have HX := Aside0.mk hx
      have hxx : x < 256 := by rw [← hbk]; exact (s[k]'hlt).toNat_lt
      clear hx
      by_cases hn : nchP x
      · have HN := Aside0.mk (show ∀ j, j < k + 1 → nchP (bt s j) from fun j hj => by
          by_cases h : j < k
          · exact HK.out j h
          · have : j = k := by omega
            rw [this, ← HX.out]; exact hn)
        unfold nchP at hn
        rcases hn with ⟨q1, q2⟩ | ⟨q1, q2⟩ | q1 | q1
        · have b1 : ((x : Int) != 95) = true := by simp; omega
          have b2 : ((x : Int) != 46) = true := by simp; omega
          go_wp2
          go_roundw
          case rel => exact ⟨k + 1, by go_num, by omega, HN, HBW⟩
          case measure => (simp [intOf]; try omega)
        · have b1 : ((x : Int) != 95) = true := by simp; omega
          have b2 : ((x : Int) != 46) = true := by simp; omega
          have q3 : x < 97 := by omega
          go_wp2
          go_roundw
          case rel => exact ⟨k + 1, by go_num, by omega, HN, HBW⟩
          case measure => (simp [intOf]; try omega)
        · have b1 : ((x : Int) != 95) = false := by simp; omega
          have q3 : x < 97 := by omega
          have q4 : 57 < x := by omega
          have b2 : ((x : Int) != 46) = true := by simp; omega
          clear q1
          go_wp2
          go_roundw
          case rel => exact ⟨k + 1, by go_num, by omega, HN, HBW⟩
          case measure => (simp [intOf]; try omega)
        · have b1 : ((x : Int) != 95) = true := by simp; omega
          have b2 : ((x : Int) != 46) = false := by simp; omega
          have q3 : x < 97 := by omega
          have q4 : (x : Int) < 48 := by omega
          have q5 : decide ((x : Int) < 48) = true := by simpa using q4
          clear q1
          go_wp2
          go_roundw
          case rel => exact ⟨k + 1, by go_num, by omega, HN, HBW⟩
          case measure => (simp [intOf]; try omega)
      · have HR := Aside0.mk (name_no (s := s) (fun h => hn (by rw [HX.out]; exact h.2.2 k hlt)))
        unfold nchP at hn
        have b1 : ((x : Int) != 95) = true := by simp; omega
        have b2 : ((x : Int) != 46) = true := by simp; omega
        have hc : x < 48 ∨ 57 < x ∧ x < 97 ∨ 122 < x := by omega
        clear hn
        rcases hc with q1 | ⟨q1, q2⟩ | q1
        all_goals go_wp2
        all_goals go_ret
        all_goals rw [HR.out]
        all_goals exact ⟨rfl, HBW.out⟩
    · have hks : k = s.size := by omega
      have HR := Aside0.mk (name_yes (s := s) ⟨⟨by omega, by omega⟩, ⟨by have := HX0.out; omega, by have := HX0.out; omega⟩, fun i hi => HK.out i (by omega)⟩)
      clear hks
      go_wp2
      go_ret
      rw [HR.out]
      exact ⟨rfl, HBW.out⟩
set_option maxHeartbeats 4000000 in
theorem refname_calls (s : ByteArray) (w : World) (hs : s.size ≤ 140737488355328) :
    Calls Try.prog 47 #[.string s] w fun e w' => e = .returned (.bool (nameB s)) ∧ Below w.heap.size w w' := by
  go_enter Try.func47, Try.ntmps47
  go_wp2
  go_loopw [8] (fun i wr => ∃ k : Nat, i = .int .i64 k ∧ k ≤ s.size ∧ Aside0 ((∀ j, j < k → nchP (bt s j)) ∧ (0 < k → 97 ≤ bt s 0 ∧ bt s 0 ≤ 122)) ∧ Aside0 (Below w.heap.size w wr)) (fun i _ => s.size - (intOf i).toNat)
  case atStart => exact ⟨0, rfl, Nat.zero_le _, ⟨fun j h => by omega, fun h => by omega⟩, ⟨Below.refl _ _⟩⟩
  case round =>
    obtain ⟨k, rfl, hk, HK, HBW⟩ := hrel
    by_cases hlt : k < s.size
    · have hbk := bt_get s k hlt
      obtain ⟨x, hx⟩ : ∃ x, x = bt s k := ⟨_, rfl⟩
      rw [← hx] at hbk
      have HX := Aside0.mk hx
      have hxx : x < 256 := by rw [← hbk]; exact (s[k]'hlt).toNat_lt
      clear hx
      by_cases hn : nchP x ∧ (k = 0 → 97 ≤ x ∧ x ≤ 122)
      · have HN := Aside0.mk (show (∀ j, j < k + 1 → nchP (bt s j)) ∧ (0 < k + 1 → 97 ≤ bt s 0 ∧ bt s 0 ≤ 122) from ⟨fun j hj => by
          by_cases h : j < k
          · exact HK.out.1 j h
          · have : j = k := by omega
            rw [this, ← HX.out]; exact hn.1, fun _ => by
          by_cases h : 0 < k
          · exact HK.out.2 h
          · have h0 : k = 0 := by omega
            have := hn.2 h0
            rw [HX.out, h0] at this
            exact this⟩)
        unfold nchP at hn
        rcases hn with ⟨q1, q2⟩ | ⟨q1, q2⟩ | q1 | q1
        · have b1 : ((x : Int) != 95) = true := by simp; omega
          have b2 : ((x : Int) != 46) = true := by simp; omega
          go_wp2
          go_roundw
          case rel => exact ⟨k + 1, by go_num, by omega, HN, HBW⟩
          case measure => (simp [intOf]; try omega)
        · have b1 : ((x : Int) != 95) = true := by simp; omega
          have b2 : ((x : Int) != 46) = true := by simp; omega
          have q3 : x < 97 := by omega
          go_wp2
          go_roundw
          case rel => exact ⟨k + 1, by go_num, by omega, HN, HBW⟩
          case measure => (simp [intOf]; try omega)
        · have b1 : ((x : Int) != 95) = false := by simp; omega
          have q3 : x < 97 := by omega
          have q4 : 57 < x := by omega
          have b2 : ((x : Int) != 46) = true := by simp; omega
          clear q1
          go_wp2
          go_roundw
          case rel => exact ⟨k + 1, by go_num, by omega, HN, HBW⟩
          case measure => (simp [intOf]; try omega)
        · have b1 : ((x : Int) != 95) = true := by simp; omega
          have b2 : ((x : Int) != 46) = false := by simp; omega
          have q3 : x < 97 := by omega
          have q4 : (x : Int) < 48 := by omega
          have q5 : decide ((x : Int) < 48) = true := by simpa using q4
          clear q1
          go_wp2
          go_roundw
          case rel => exact ⟨k + 1, by go_num, by omega, HN, HBW⟩
          case measure => (simp [intOf]; try omega)
      · have HR := Aside0.mk (name_no (s := s) (fun h => hn ⟨by rw [HX.out]; exact h.2.2 k hlt, fun h0 => by subst h0; rw [HX.out]; exact h.2.1⟩))
        unfold nchP at hn
        by_cases ha : 97 ≤ x ∧ x ≤ 122
        · exact absurd ⟨.inl ha, fun _ => ha⟩ hn
        · have ha' : x < 97 ∨ 122 < x := by omega
          by_cases hz : k = 0
          · have kb : ((k : Int) == 0) = true := by simp [hz]
            clear hn ha hz
            rcases ha' with q1 | q1
            all_goals go_wp2
            all_goals first
              | (go_ret; rw [HR.out]; exact ⟨rfl, HBW.out⟩)
              | (exfalso; simp_all; omega)
          · have kb : ((k : Int) == 0) = false := by simp [hz]
            have b1 : ((x : Int) != 95) = true := by simp; omega
            have b2 : ((x : Int) != 46) = true := by simp; omega
            have hc : x < 48 ∨ 57 < x ∧ x < 97 ∨ 122 < x := by omega
            clear hn ha ha' hz
            rcases hc with q1 | ⟨q1, q2⟩ | q1
            all_goals go_wp2
            all_goals first
              | (go_ret; rw [HR.out]; exact ⟨rfl, HBW.out⟩)
              | (exfalso; simp_all; omega)
    · have hks : k = s.size := by omega
      have HR := Aside0.mk (show nameB s = decide (1 ≤ s.size ∧ s.size ≤ 32) by
        unfold nameB
        congr 1
        apply propext
        constructor
        · exact fun h => h.1
        · exact fun h => ⟨h, HK.out.2 (by omega), fun i hi => HK.out.1 i (by omega)⟩)
      clear hks
      by_cases q1 : 1 ≤ s.size
      · by_cases q2 : s.size ≤ 32
        · have HE := Aside0.mk (HR.out.trans (decide_eq_true ⟨q1, q2⟩))
          go_wp2
          go_ret
          rw [HE.out]
          refine ⟨?_, HBW.out⟩
          simp
          try omega
        · have HE := Aside0.mk (HR.out.trans (decide_eq_false (fun h => q2 h.2)))
          go_wp2
          go_ret
          rw [HE.out]
          refine ⟨?_, HBW.out⟩
          simp
          try omega
      · have HE := Aside0.mk (HR.out.trans (decide_eq_false (fun h => q1 h.1)))
        go_wp2
        go_ret
        rw [HE.out]
        exact ⟨rfl, HBW.out⟩
end Go.Proofs.Ytdboloabpjmgaaa

/-! TMay -/
namespace Go.Proofs.Ytdboloabpjmgaaa
open Go.RowKit Go.Proofs.YtdboloabpjmgaaaW.PrintWords Go.RegionInvYtdboloabpjmgaaa

/-- The first level that may not be; 0: all may. -/
def mayLs (v : Int) : List Lv → Int
  | [] => 0
  | l :: r => if mayB v l = 0 then mayLs v r else mayB v l
theorem mayLs_go {v : Int} {l : Lv} {r : List Lv} (h : mayB v l = 0) : mayLs v (l :: r) = mayLs v r := by rw [mayLs, if_pos h]
theorem mayLs_stop {v : Int} {l : Lv} {r : List Lv} (h : mayB v l ≠ 0) : mayLs v (l :: r) = mayB v l := by rw [mayLs, if_neg h]
/-- May a node be? -/
def mnP (v : Int) (t : Tm) : Int :=
  if (t.kids.length : Int) ≠ arZ t.kind then 1 else if t.kind = 1 ∧ (t.num < 0 ∨ 1048576 < t.num) then 1 else
  if t.kind = 2 then mayB v t.lv else if t.kind ≠ 7 then 0 else if nameB t.name = false then 8 else if 6 < t.ls.length then 2 else mayLs v t.ls
theorem mn_kids {v : Int} {t : Tm} (h : (t.kids.length : Int) ≠ arZ t.kind) : mnP v t = 1 := if_pos h
theorem mn_num {v : Int} {t : Tm} (h0 : (t.kids.length : Int) = arZ t.kind) (h : t.kind = 1 ∧ (t.num < 0 ∨ 1048576 < t.num)) : mnP v t = 1 := by
  unfold mnP; rw [if_neg (fun h => h h0), if_pos h]
theorem mn_sort {v : Int} {t : Tm} (h0 : (t.kids.length : Int) = arZ t.kind) (h : t.kind = 2) : mnP v t = mayB v t.lv := by
  unfold mnP; rw [if_neg (fun h => h h0), if_neg (fun h' => by have := h'.1; omega), if_pos h]
theorem mn_else {v : Int} {t : Tm} (h0 : (t.kids.length : Int) = arZ t.kind) (h1 : ¬ (t.kind = 1 ∧ (t.num < 0 ∨ 1048576 < t.num))) (h2 : t.kind ≠ 2) (h7 : t.kind ≠ 7) : mnP v t = 0 := by
  unfold mnP; rw [if_neg (fun h => h h0), if_neg h1, if_neg h2, if_pos h7]
theorem mn_const {v : Int} {t : Tm} (h0 : (t.kids.length : Int) = arZ t.kind) (h : t.kind = 7) : mnP v t = if nameB t.name = false then 8 else if 6 < t.ls.length then 2 else mayLs v t.ls := by
  unfold mnP; rw [if_neg (fun h => h h0), if_neg (fun h' => by have := h'.1; omega), if_neg (by omega), if_neg (by omega)]
theorem mn_arity {v : Int} {t : Tm} (h : mnP v t = 0) : (t.kids.length : Int) = arZ t.kind := by
  by_cases h1 : (t.kids.length : Int) = arZ t.kind
  · exact h1
  · rw [mn_kids h1] at h; exact absurd h (by decide)
theorem mn_nK {v : Int} {t : Tm} (h : mnP v t = 0) : nK t = t.kids.length := by
  have h1 := mn_arity h
  unfold nK
  rw [if_neg (by omega)]
  omega
theorem blw_drewN {B : Nat} {a w : World} (h : Below B a w) (n : Nat) : Below B a (w.drewN n) := h.trans ⟨rfl, rfl, rfl, Nat.le_refl _, fun _ _ => rfl⟩
theorem LvIn.stay' {w : World} {A : Option Addr} {c : Nat} {l : Lv} {o : Obj} (h : LvIn w w.heap.size A c l) : LvIn (w.alloc o) (w.alloc o).heap.size A c l := (h.stay ((Below.refl _ _).alloc (Nat.le_refl _) o)).all
/-- May, at arguments of one's own. -/
theorem may_at (A : Option Addr) (c m : Nat) (k n : Int) (l : Lv) (v : Int) (w : World) (hk : l.kind = k) (hn : l.num = n) (hm : l.kids.length = m) (hin : LvIn w w.heap.size A c l) :
    Calls Try.prog 105 #[.agg #[.int .i64 k, .int .i64 n, .slice A m c], .int .i64 v] w fun e w' => e = .returned (.int .i64 (mayB v l)) ∧ Below w.heap.size w w' := by
  subst hk; subst hn; subst hm
  exact may_calls A c l v w hin
set_option maxRecDepth 100000 in
set_option maxHeartbeats 8000000 in
theorem maynode_calls (t : Tm) (p : Pl) (v : Int) (w : World) (hin : TmIn w w.heap.size p t) :
    Calls Try.prog 83 #[tmV p t, .int .i64 v] w fun e w' => e = .returned (.int .i64 (mnP v t)) ∧ Below w.heap.size w w' := by
  obtain ⟨W, hW⟩ : ∃ W, W = w.alloc (tmO p t) := ⟨_, rfl⟩
  have hb : Below w.heap.size w W := by rw [hW]; exact below_alloc (Below.refl _ _) _
  have HX := Aside0.mk (show W.heap[w.heap.size]? = some (tmO p t) by rw [hW]; exact blk_new _ _)
  have hin1 := hin.stay hb
  have HB := Aside0.mk hb
  have HLV := Aside0.mk (hin1.lv.all)
  have HLS := Aside0.mk (hin1.ls.all)
  have hlen := hin1.len
  have hll := hin1.ls.len
  clear hin hb hin1
  obtain ⟨pA, pc, pB, pd, pK, pe⟩ := p
  obtain ⟨tk, tn, nm, lv, ls, ks⟩ := t
  unfold tmV
  dsimp only [Tm.kind, Tm.num, Tm.name, Tm.lv, Tm.ls, Tm.kids] at hlen hll HX HLV HLS ⊢
  simp only [Lv.kids] at hll
  obtain ⟨c0, c1, c2, c3, c4, c5, c6, c7⟩ := row8 HX.out
  dsimp only [Tm.kind, Tm.num, Tm.name, Tm.lv, Tm.ls, Tm.kids] at c0 c1 c2 c3 c4 c5 c6 c7
  obtain ⟨lk, hlk⟩ : ∃ x, lv.kind = x := ⟨_, rfl⟩
  obtain ⟨ln, hln⟩ : ∃ x, lv.num = x := ⟨_, rfl⟩
  obtain ⟨lm, hlm⟩ : ∃ x, lv.kids.length = x := ⟨_, rfl⟩
  obtain ⟨L, hL⟩ : ∃ x, ks.length = x := ⟨_, rfl⟩
  obtain ⟨M, hM⟩ : ∃ x, ls.length = x := ⟨_, rfl⟩
  rw [show tmO ⟨pA, pc, pB, pd, pK, pe⟩ (.mk tk tn nm lv ls ks) = .cells #[.int .i64 tk, .int .i64 tn, .string nm, .int .i64 lv.kind, .int .i64 lv.num, .slice pA lv.kids.length pc, .slice pB ls.length pd, .slice pK ks.length pe] 28 (0, 0) from rfl] at hW
  rw [hlk, hln, hlm, hM, hL] at hW ⊢
  rw [hlk] at c3
  rw [hln] at c4
  rw [hlm] at c5
  rw [hM] at c6
  rw [hL] at c7
  rw [hL] at hlen
  rw [hM] at hll
  have HLK := Aside0.mk hlk
  have HLN := Aside0.mk hln
  have HLM := Aside0.mk hlm
  have HL := Aside0.mk hL
  have HM := Aside0.mk hM
  clear hlk hln hlm hL hM
  have hM9 : M ≤ 9223372036854775807 := by omega
  have hL9 : L ≤ 9223372036854775807 := by omega
  clear hlen hll
  go_enter Try.func83, Try.ntmps83
  go_upto_region 1 with (fail)
  rw [← hW]
  clear hW
  obtain ⟨ar, har⟩ : ∃ x, x = arZ tk := ⟨_, rfl⟩
  have HAR := Aside0.mk har
  have HAC := Aside0.mk (show ∀ w, Calls Try.prog 104 #[.int .i64 tk] w fun e w' => e = .returned (.int .i64 ar) ∧ w' = w from fun w => by rw [har]; exact tar_calls _ _)
  clear har
  by_cases h0 : (L : Int) = ar
  · have h0' : ((L : Int) != ar) = false := by simp [h0]
    have H0 := Aside0.mk (show (Tm.kids (.mk tk tn nm lv ls ks)).length = arZ (Tm.kind (.mk tk tn nm lv ls ks)) by dsimp only [Tm.kids, Tm.kind]; rw [HL.out, h0, HAR.out])
    clear h0
    by_cases k1 : tk = 1 ∧ (tn < 0 ∨ 1048576 < tn)
    · have HR := Aside0.mk (mn_num (v := v) H0.out k1)
      obtain ⟨k1, kn⟩ := k1
      have e1 : (tk == 1) = true := by simp [k1]
      clear k1
      by_cases hn0 : tn < 0
      · go_quiet ((go_at_call 104; exact Calls.quiet_of_same (HAC.out _)))
        go_wp2
        go_ret
        rw [HR.out]
        refine ⟨rfl, ?_⟩
        exact (blw_drewN HB.out _)
      · have hn1 : 1048576 < tn := by omega
        go_quiet ((go_at_call 104; exact Calls.quiet_of_same (HAC.out _)))
        go_wp2
        go_ret
        rw [HR.out]
        refine ⟨rfl, ?_⟩
        exact (blw_drewN HB.out _)
    · by_cases k2 : tk = 2
      · have HR := Aside0.mk (mn_sort (v := v) H0.out k2)
        have e1 : (tk == 1) = false := by simp [k2]
        have e2 : (tk == 2) = true := by simp [k2]
        clear k1 k2
        go_quiet ((go_at_call 104; exact Calls.quiet_of_same (HAC.out _)))
        go_wp2_with (go_at_call 105; go_must (refine (may_at pA pc lm lk ln lv v _ HLK.out HLN.out HLM.out (by exact LvS.same HLV.out (fun _ _ _ => rfl))).mono ?_; rintro e w1 ⟨rfl, hb⟩; have HB1 := Aside0.mk hb; clear hb))
        go_ret
        rw [HR.out]
        refine ⟨rfl, ?_⟩
        refine Below.trans ?_ (HB1.out.mono HB.out.size)
        exact (blw_drewN HB.out _)
      · have e2 : (tk == 2) = false := by simp [k2]
        by_cases k7 : tk = 7
        · have e1 : (tk == 1) = false := by simp [k7]
          have e7 : (tk != 7) = false := by simp [k7]
          have HC := Aside0.mk (show mnP v (.mk tk tn nm lv ls ks) = if nameB nm = false then 8 else if 6 < ls.length then 2 else mayLs v ls from mn_const H0.out k7)
          clear k1 k2 k7
          cases hnm : nameB nm with
          | false =>
            have HR := Aside0.mk (HC.out.trans (if_pos hnm))
            have HNM := Aside0.mk hnm
            clear hnm
            go_quiet ((go_at_call 104; exact Calls.quiet_of_same (HAC.out _)))
            go_wp2_with (go_at_call 46; go_must (refine (name_calls nm _).mono ?_; rintro e w1 ⟨rfl, hb⟩; rw [HNM.out]; have HB1 := Aside0.mk hb; clear hb))
            go_ret
            rw [HR.out]
            refine ⟨rfl, ?_⟩
            refine Below.trans ?_ (HB1.out.mono HB.out.size)
            exact (blw_drewN HB.out _)
          | true =>
            have HNM := Aside0.mk hnm
            have HC2 := Aside0.mk (HC.out.trans (if_neg (by rw [hnm]; decide)))
            clear hnm
            by_cases h6 : 6 < M
            · have HR := Aside0.mk (HC2.out.trans (if_pos (by rw [HM.out]; exact h6)))
              have h6' : (6 : Int) < M := by omega
              go_quiet ((go_at_call 104; exact Calls.quiet_of_same (HAC.out _)))
              go_wp2_with (go_at_call 46; go_must (refine (name_calls nm _).mono ?_; rintro e w1 ⟨rfl, hb⟩; rw [HNM.out]; have c6 := (hb.cell (p := ⟨w.heap.size, 6, none⟩) (blk_lt HX.out)).trans c6; have HB1 := Aside0.mk hb; clear hb))
              go_ret
              rw [HR.out]
              refine ⟨rfl, ?_⟩
              refine Below.trans ?_ (HB1.out.mono HB.out.size)
              exact (blw_drewN HB.out _)
            · have HR := Aside0.mk (HC2.out.trans (if_neg (by rw [HM.out]; exact h6)))
              have h6' : ¬ ((6 : Int) < M) := by omega
              clear h6
              go_quiet ((go_at_call 104; exact Calls.quiet_of_same (HAC.out _)))
              go_wp2_with (go_at_call 46; go_must (refine (name_calls nm _).mono ?_; rintro e w1 ⟨rfl, hb⟩; rw [HNM.out]; have c6 := (hb.cell (p := ⟨w.heap.size, 6, none⟩) (blk_lt HX.out)).trans c6; have HLS1 := Aside0.mk (LvS.same HLS.out (w' := w1) (fun k _ hk => hb.block k hk)); have HB1 := Aside0.mk hb; clear hb))
              have HB2 := Aside0.mk (show Below w.heap.size w w1 from Below.trans ((blw_drewN HB.out _)) (HB1.out.mono HB.out.size))
              go_loopw [55] (fun i wr => ∃ k : Nat, i = .int .i64 k ∧ k ≤ M ∧ Aside0 (mayLs v (ls.drop k) = mayLs v ls) ∧ Aside0 (Below w1.heap.size w1 wr)) (fun i _ => M - (intOf i).toNat)
              case atStart => exact ⟨0, rfl, Nat.zero_le _, ⟨rfl⟩, ⟨Below.refl _ _⟩⟩
              case round =>
                obtain ⟨k, rfl, hk, HK, HBW⟩ := hrel
                by_cases hlt : k < M
                · have hlt2 : k < ls.length := by rw [HM.out]; exact hlt
                  obtain ⟨x, hx⟩ : ∃ x, ls[k]? = some x := ⟨_, List.getElem?_eq_getElem hlt2⟩
                  obtain ⟨A', c', hcs, hin⟩ := (LvS.same HLS1.out (w' := wr) (fun j hj _ => HBW.out.block j (Nat.lt_of_lt_of_le hj HB1.out.size))).kid k x hx
                  obtain ⟨ad, rfl, d1, d2, d3⟩ := hcs.facts
                  have HX := Aside0.mk hx
                  have HXIN := Aside0.mk hin.all
                  obtain ⟨xk, hxk⟩ : ∃ y, x.kind = y := ⟨_, rfl⟩
                  obtain ⟨xn, hxn⟩ : ∃ y, x.num = y := ⟨_, rfl⟩
                  obtain ⟨xm, hxm⟩ : ∃ y, x.kids.length = y := ⟨_, rfl⟩
                  rw [hxk] at d1
                  rw [hxn] at d2
                  rw [hxm] at d3
                  have HXK := Aside0.mk hxk
                  have HXN := Aside0.mk hxn
                  have HXM := Aside0.mk hxm
                  clear hcs hx hin hlt2 hxk hxn hxm
                  by_cases h2 : mayB v x = 0
                  · have HK2 := Aside0.mk (show mayLs v (ls.drop (k + 1)) = mayLs v ls by rw [← HK.out, drop_kid HX.out, mayLs_go h2])
                    have HV := Aside0.mk h2
                    clear h2
                    go_wp2_with (go_at_call 105; go_must (refine (may_at A' c' xm xk xn x v _ HXK.out HXN.out HXM.out (by exact LvIn.stay' HXIN.out)).mono ?_; rintro e w2 ⟨rfl, hb⟩; rw [HV.out]; have HB3 := Aside0.mk hb; clear hb))
                    go_roundw
                    case rel => exact ⟨k + 1, by go_num, by omega, HK2, ⟨Below.trans (Below.alloc HBW.out HBW.out.size _) (HB3.out.mono (by simp; have := HBW.out.size; omega))⟩⟩
                    case measure => (simp [intOf]; try omega)
                  · have HV := Aside0.mk (show mayLs v ls = mayB v x by rw [← HK.out, drop_kid HX.out, mayLs_stop h2])
                    obtain ⟨e2, he2⟩ : ∃ e2, e2 = mayB v x := ⟨_, rfl⟩
                    rw [← he2] at h2
                    have h2' : (e2 != 0) = true := by simpa using h2
                    have HE2 := Aside0.mk he2
                    clear h2 he2
                    go_wp2_with (go_at_call 105; go_must (refine (may_at A' c' xm xk xn x v _ HXK.out HXN.out HXM.out (by exact LvIn.stay' HXIN.out)).mono ?_; rintro e w2 ⟨rfl, hb⟩; rw [← HE2.out]; have HB3 := Aside0.mk hb; clear hb))
                    go_ret
                    rw [HR.out, HV.out, HE2.out]
                    exact ⟨rfl, Below.trans HB2.out ((Below.trans (Below.alloc HBW.out HBW.out.size _) (HB3.out.mono (by simp; have := HBW.out.size; omega))).mono HB2.out.size)⟩
                · obtain rfl : k = M := by omega
                  have hlt' : decide ((k : Int) < k) = false := by simp
                  have HZ := Aside0.mk (show mayLs v ls = 0 by rw [← HK.out, List.drop_of_length_le (by rw [HM.out]; exact Nat.le_refl _), mayLs])
                  go_wp2
                  go_ret
                  rw [HR.out, HZ.out]
                  exact ⟨rfl, Below.trans HB2.out (HBW.out.mono HB2.out.size)⟩
        · have e7 : (tk != 7) = true := by simp [k7]
          have HR := Aside0.mk (mn_else (v := v) H0.out k1 k2 k7)
          by_cases k1' : tk = 1
          · have e1 : (tk == 1) = true := by simp [k1']
            have q1 : 0 ≤ tn := by omega
            have q2 : tn ≤ 1048576 := by omega
            clear k1 k2 k7 k1'
            go_quiet ((go_at_call 104; exact Calls.quiet_of_same (HAC.out _)))
            go_wp2
            go_ret
            rw [HR.out]
            refine ⟨rfl, ?_⟩
            exact (blw_drewN HB.out _)
          · have e1 : (tk == 1) = false := by simp [k1']
            clear k1 k2 k7 k1'
            go_quiet ((go_at_call 104; exact Calls.quiet_of_same (HAC.out _)))
            go_wp2
            go_ret
            rw [HR.out]
            refine ⟨rfl, ?_⟩
            exact (blw_drewN HB.out _)
  · have h0' : ((L : Int) != ar) = true := by simp [h0]
    have HR := Aside0.mk (mn_kids (v := v) (t := .mk tk tn nm lv ls ks) (show (ks.length : Int) ≠ arZ tk by rw [HL.out, ← HAR.out]; exact h0))
    clear h0
    go_quiet ((go_at_call 104; exact Calls.quiet_of_same (HAC.out _)))
    go_wp2
    go_ret
    rw [HR.out]
    refine ⟨rfl, ?_⟩
    exact (blw_drewN HB.out _)
end Go.Proofs.Ytdboloabpjmgaaa

/-! TMayC -/
namespace Go.Proofs.Ytdboloabpjmgaaa
open Go.RowKit Go.Proofs.YtdboloabpjmgaaaW.PrintWords Go.RegionInvYtdboloabpjmgaaa

def ErrAt (w : World) (g : Nat) (n : Int) : Prop := w.heap[g]? = some (.cells #[.int .i64 n] 49 (0, 0))
theorem ErrAt.cell {w : World} {g : Nat} {n : Int} (h : ErrAt w g n) : w.cell? ⟨g, 0, none⟩ = some (.int .i64 n) := by rw [cell_of_row _ _ _ _ _ _ h]; rfl
theorem ErrAt.set {w : World} {g : Nat} {n : Int} (h : ErrAt w g n) (m : Int) : ErrAt (w.setCell ⟨g, 0, none⟩ (.int .i64 m)) g m := blk_put h 0 _ rfl
def mtF (v : Int) (t : Tm) (d _ : Int) (s : Int × Int) : Bool × (Int × Int) :=
  if 64 < d ∨ 400 < s.1 + 1 then (false, (s.1 + 1, 2)) else (decide (mnP v t = 0), (s.1 + 1, mnP v t))
theorem mtF_long {v : Int} {t : Tm} {d b : Int} {s : Int × Int} (h : 64 < d ∨ 400 < s.1 + 1) : mtF v t d b s = (false, (s.1 + 1, 2)) := if_pos h
theorem mtF_node {v : Int} {t : Tm} {d b : Int} {s : Int × Int} (h : ¬ (64 < d ∨ 400 < s.1 + 1)) : mtF v t d b s = (decide (mnP v t = 0), (s.1 + 1, mnP v t)) := if_neg h
def RepY (g1 g2 g3 : Nat) (v : Int) (s : Int × Int) (w : World) : Prop := NumAt w g1 s.1 ∧ ErrAt w g2 s.2 ∧ NumAt w g3 v
def InvY (s : Int × Int) : Prop := 0 ≤ s.1 ∧ s.1 ≤ 400
def GY (g1 g2 g3 : Nat) (k : Nat) : Prop := k = g1 ∨ k = g2 ∨ k = g3
theorem mtF_ok {v : Int} {t : Tm} {d b : Int} {s : Int × Int} (hd : 0 ≤ d ∧ d ≤ 65) (hI : InvY s) (h : (mtF v t d b s).1 = true) : InvY (mtF v t d b s).2 ∧ ∀ _ : Fin (nK t), 0 ≤ d + 1 ∧ d + 1 ≤ 65 := by
  by_cases h1 : 64 < d ∨ 400 < s.1 + 1
  · rw [mtF_long h1] at h; cases h
  · rw [mtF_node h1] at h ⊢
    obtain ⟨i1, i2⟩ := hI
    unfold InvY
    simp only
    exact ⟨by omega, fun _ => by omega⟩
/-- May a term be, with so many level variables? -/
def mayT (v : Int) (t : Tm) : Int := (foldP (mtF v) t 1 0 (0, 0)).2.2
theorem maynode_at (t : Tm) (p : Pl) (v : Int) (w W : World) (B : Nat) (a : Value) (ha : a = tmV p t) (hin : TmIn W B p t) (hb : Below B W w) :
    Calls Try.prog 83 #[a, .int .i64 v] w fun e w' => e = .returned (.int .i64 (mnP v t)) ∧ Below w.heap.size w w' := by
  subst ha
  exact maynode_calls t p v w (TmS.all (hin.stay hb))
set_option maxHeartbeats 4000000 in
theorem mat1_calls (t : Tm) (p : Pl) (d b v : Int) (s : Int × Int) (w : World) (g1 g2 g3 B : Nat) (h12 : g1 ≠ g2) (h13 : g1 ≠ g3) (h23 : g2 ≠ g3) (hB1 : B ≤ g1) (hB2 : B ≤ g2) (_hd0 : 0 ≤ d) (_hd1 : d ≤ 65) (hI : InvY s) (hin : TmIn w B p t) (hR : RepY g1 g2 g3 v s w) :
    Calls Try.prog 82 #[tmV p t, .int .i64 d, .int .i64 b, .pointer (some ⟨g1, 0, none⟩), .pointer (some ⟨g2, 0, none⟩), .pointer (some ⟨g3, 0, none⟩)] w (FoldPost (RepY g1 g2 g3 v) (GY g1 g2 g3) w (mtF v t d b s)) := by
  obtain ⟨n, er⟩ := s
  obtain ⟨h1, h2, h3⟩ := hR
  obtain ⟨i1, i2⟩ := hI
  simp only at h1 h2 h3 i1 i2
  have HIN := Aside0.mk hin
  obtain ⟨W, hW⟩ : ∃ W, W = (w.setCell ⟨g1, 0, none⟩ (.int .i64 (n + 1))).alloc (tmO p t) := ⟨_, rfl⟩
  have hz1 := blk_lt h1
  have hz2 := blk_lt h2
  have hz3 := blk_lt h3
  have cs := chg_set w g1 0 (.int .i64 (n + 1))
  have hch : Chg (fun k => k = g1) w W := by rw [hW]; exact chg_trans cs (chg_alloc _ _ _)
  have k1 : NumAt W g1 (n + 1) := by rw [hW]; exact (h1.set _).alloc _
  have k2 : ErrAt W g2 er := (hch.block g2 hz2 (fun e => h12 e.symm)).trans h2
  have k3 : NumAt W g3 v := (hch.block g3 hz3 (fun e => h13 e.symm)).trans h3
  have HCH := Aside0.mk hch
  have K1 := Aside0.mk k1
  have K2 := Aside0.mk k2
  have K3 := Aside0.mk k3
  have HX := Aside0.mk (show W.heap[w.heap.size]? = some (tmO p t) by rw [hW]; have := blk_new (w.setCell ⟨g1, 0, none⟩ (.int .i64 (n + 1))) (tmO p t); simpa [World.setCell] using this)
  have c1 := h1.cell
  have f1 := blk_frozen h1 0
  clear h1 h2 h3 cs hch k1 k2 k3 hin
  unfold tmV
  unfold tmO at hW
  go_enter Try.func82, Try.ntmps82
  go_upto_region 2 with (fail)
  rw [← hW]
  clear hW
  have c1' := K1.out.cell
  have c2' := K2.out.cell
  have c3' := K3.out.cell
  have f2' := blk_frozen K2.out 0
  obtain ⟨b0, b1, b2, b3, b4, b5, b6, b7⟩ := row8 HX.out
  by_cases q : 64 < d ∨ 400 < n + 1
  · have HE := Aside0.mk (mtF_long (v := v) (t := t) (b := b) (s := (n, er)) q)
    have HS : Chg (fun k => k = g2) W (W.setCell ⟨g2, 0, none⟩ (.int .i64 2)) := chg_set _ _ _ _
    have HF := Aside0.mk (show RepY g1 g2 g3 v (n + 1, 2) (W.setCell ⟨g2, 0, none⟩ (.int .i64 2)) ∧ Chg (GY g1 g2 g3) w (W.setCell ⟨g2, 0, none⟩ (.int .i64 2)) from
      ⟨⟨(HS.block g1 (blk_lt K1.out) h12).trans K1.out, K2.out.set 2, (HS.block g3 (blk_lt K3.out) (fun e => h23 e.symm)).trans K3.out⟩, chg_trans (HCH.out.mono fun k h => .inl h) (HS.mono fun k h => .inr (.inl h))⟩)
    have hc9 : (W.setCell ⟨g2, 0, none⟩ (.int .i64 2)).cell? ⟨g2, 0, none⟩ = some (.int .i64 2) := (K2.out.set 2).cell
    clear HS
    rcases q with q | q
    · go_wp2
      go_ret
      rw [HE.out]
      exact ⟨rfl, HF.out.1, HF.out.2⟩
    · by_cases q2 : 64 < d
      · go_wp2
        go_ret
        rw [HE.out]
        exact ⟨rfl, HF.out.1, HF.out.2⟩
      · go_wp2
        go_ret
        rw [HE.out]
        exact ⟨rfl, HF.out.1, HF.out.2⟩
  · have HE := Aside0.mk (mtF_node (v := v) (t := t) (b := b) (s := (n, er)) q)
    have q1 : d ≤ 64 := by omega
    have q2 : n + 1 ≤ 400 := by omega
    clear q
    obtain ⟨m, hm⟩ : ∃ m, m = mnP v t := ⟨_, rfl⟩
    rw [← hm] at HE
    have HM := Aside0.mk hm
    clear hm
    go_wp2_with (go_at_call 83; go_must (refine (maynode_at t p v _ W B _ rfl (TmIn.stay HIN.out (HCH.out.below (fun k e => by omega) (by omega))) (Below.refl _ _)).mono ?_; rintro e w2 ⟨rfl, hb⟩; rw [← HM.out]; have c2' := (hb.cell (p := ⟨g2, 0, none⟩) (blk_lt K2.out)).trans c2'; have f2' := (hb.frozen (p := ⟨g2, 0, none⟩) (blk_lt K2.out)).trans f2'; have hc9 : (w2.setCell ⟨g2, 0, none⟩ (.int .i64 m)).cell? ⟨g2, 0, none⟩ = some (.int .i64 m) := World.cell?_setCell_same' _ _ _ (by rw [c2']; rfl); have HB := Aside0.mk hb; clear hb))
    have L2 : ErrAt w2 g2 er := (HB.out.block g2 (blk_lt K2.out)).trans K2.out
    have HS : Chg (fun k => k = g2) w2 (w2.setCell ⟨g2, 0, none⟩ (.int .i64 m)) := chg_set _ _ _ _
    have hF : RepY g1 g2 g3 v (n + 1, m) (w2.setCell ⟨g2, 0, none⟩ (.int .i64 m)) ∧ Chg (GY g1 g2 g3) w (w2.setCell ⟨g2, 0, none⟩ (.int .i64 m)) :=
      ⟨⟨(HS.block g1 (by have := blk_lt K1.out; have := HB.out.size; omega) h12).trans ((HB.out.block g1 (blk_lt K1.out)).trans K1.out), L2.set m, (HS.block g3 (by have := blk_lt K3.out; have := HB.out.size; omega) (fun e => h23 e.symm)).trans ((HB.out.block g3 (blk_lt K3.out)).trans K3.out)⟩,
        chg_trans (HCH.out.mono fun k h => .inl h) (chg_trans (Chg.of_below HB.out) (HS.mono fun k h => .inr (.inl h)))⟩
    go_ret
    rw [HE.out]
    exact ⟨by by_cases hm : m = 0 <;> simp [hm], hF.1, hF.2⟩
set_option maxHeartbeats 4000000 in
/-- fold over the visit of May. -/
theorem foldMa_calls (t : Tm) (p : Pl) (B v : Int) (BB g1 g2 g3 : Nat) (w : World) (h12 : g1 ≠ g2) (h13 : g1 ≠ g3) (h23 : g2 ≠ g3) (h1 : BB ≤ g1) (h2 : BB ≤ g2) (h3 : BB ≤ g3) (hin : TmIn w BB p t) (hn1 : NumAt w g1 0) (hn2 : ErrAt w g2 0) (hn3 : NumAt w g3 v) :
    Calls Try.prog 58 #[tmV p t, .int .i64 1, .int .i64 0, vfMa g1 g2 g3] w (FoldPost (RepY g1 g2 g3 v) (GY g1 g2 g3) w (foldP (mtF v) t 1 0 (0, 0))) :=
  fold_Ma (mtF v) (RepY g1 g2 g3 v) InvY (fun _ d => 0 ≤ d ∧ d ≤ 65) (GY g1 g2 g3) BB (max g1 (max g2 g3) + 1) g1 g2 g3 (fun k h => by rcases h with rfl | rfl | rfl <;> omega) (by omega)
    (fun s W W' h hs => ⟨(hs g1 (.inl rfl)).trans h.1, (hs g2 (.inr (.inl rfl))).trans h.2.1, (hs g3 (.inr (.inr rfl))).trans h.2.2⟩)
    (fun t p d b s w hP _ _ hI _ hin hR => mat1_calls t p d b v s w g1 g2 g3 BB h12 h13 h23 h1 h2 hP.1 hP.2 hI hin hR)
    (fun t d b s hP hI h => mtF_ok hP hI h) (fun t d h => by omega) _ t (Nat.lt_succ_self _) p 1 0 (0, 0) w (by omega) (by omega) (by omega) ⟨by decide, by decide⟩ (by have := blk_lt hn1; have := blk_lt hn2; have := blk_lt hn3; omega) hin ⟨hn1, hn2, hn3⟩
set_option maxHeartbeats 4000000 in
theorem mayt_calls (t : Tm) (p : Pl) (v : Int) (w : World) (hin : TmIn w w.heap.size p t) :
    Calls Try.prog 44 #[tmV p t, .int .i64 v] w fun e w' => e = .returned (.int .i64 (mayT v t)) ∧ Below w.heap.size w w' := by
  have HIN := Aside0.mk hin
  obtain ⟨W, hW⟩ : ∃ W, W = (((w.alloc (tmO p t)).alloc (.cells #[.int .i64 v] 3 (0, 0))).alloc (.cells #[.int .i64 0] 3 (0, 0))).alloc (.cells #[.int .i64 0] 49 (0, 0)) := ⟨_, rfl⟩
  have hb : Below w.heap.size w W := by rw [hW]; exact below_alloc (below_alloc (below_alloc (below_alloc (Below.refl _ _) _) _) _) _
  have HX := Aside0.mk (show W.heap[w.heap.size]? = some (tmO p t) by rw [hW]; exact blk_alloc (blk_alloc (blk_alloc (blk_new _ _) _) _) _)
  have HN3 := Aside0.mk (show NumAt W (w.heap.size + 1) v by rw [hW]; have := blk_new (w.alloc (tmO p t)) (.cells #[.int .i64 v] 3 (0, 0)); simp only [World.size_alloc] at this; exact blk_alloc (blk_alloc this _) _)
  have HN1 := Aside0.mk (show NumAt W (w.heap.size + 1 + 1) 0 by rw [hW]; have := blk_new ((w.alloc (tmO p t)).alloc (.cells #[.int .i64 v] 3 (0, 0))) (.cells #[.int .i64 0] 3 (0, 0)); simp only [World.size_alloc] at this; exact blk_alloc this _)
  have HN2 := Aside0.mk (show ErrAt W (w.heap.size + 1 + 1 + 1) 0 by rw [hW]; have := blk_new (((w.alloc (tmO p t)).alloc (.cells #[.int .i64 v] 3 (0, 0))).alloc (.cells #[.int .i64 0] 3 (0, 0))) (.cells #[.int .i64 0] 49 (0, 0)); simp only [World.size_alloc] at this; exact this)
  have HB := Aside0.mk hb
  clear hin hb
  unfold tmV
  unfold tmO at hW
  go_enter Try.func44, Try.ntmps44
  go_upto_region 2 with (fail)
  rw [← hW]
  clear hW
  obtain ⟨c0, c1, c2, c3, c4, c5, c6, c7⟩ := row8 HX.out
  go_wp2_with (first
    | (go_at_call 58; go_must (refine (foldMa_calls t p 0 v w.heap.size (w.heap.size + 1 + 1) (w.heap.size + 1 + 1 + 1) (w.heap.size + 1) W (by omega) (by omega) (by omega) (by omega) (by omega) (by omega) (HIN.out.stay HB.out) HN1.out HN2.out HN3.out).mono ?_; rintro e w2 ⟨rfl, hR, hC⟩; have c9 := hR.2.1.cell; have HB2 := Aside0.mk (Chg.trans_below HB.out hC (fun k h => by rcases h with rfl | rfl | rfl <;> omega) HB.out.size); clear hR hC)))
  go_ret
  exact ⟨rfl, HB2.out⟩
end Go.Proofs.Ytdboloabpjmgaaa

/-! TMayR -/
namespace Go.Proofs.Ytdboloabpjmgaaa
open Go.RowKit Go.Proofs.YtdboloabpjmgaaaW.PrintWords Go.RegionInvYtdboloabpjmgaaa

theorem refkids_calls (k : Int) (w : World) : Calls Try.prog 39 #[.int .i64 k] w fun e w' => e = .returned (.int .i64 (arZ k)) ∧ w' = w := by
  go_enter Try.func39, Try.ntmps39
  by_cases h1 : k = 1
  · subst h1; go_wp2; go_ret; exact ⟨rfl, rfl⟩
  · by_cases h2 : k = 2
    · subst h2; go_wp2; go_ret; exact ⟨rfl, rfl⟩
    · by_cases h7 : k = 7
      · subst h7; go_wp2; go_ret; exact ⟨rfl, rfl⟩
      · by_cases h3 : k = 3
        · subst h3; go_wp2; go_ret; exact ⟨rfl, rfl⟩
        · by_cases h4 : k = 4
          · subst h4; go_wp2; go_ret; exact ⟨rfl, rfl⟩
          · by_cases h6 : k = 6
            · subst h6; go_wp2; go_ret; exact ⟨rfl, rfl⟩
            · by_cases h5 : k = 5
              · subst h5; go_wp2; go_ret; exact ⟨rfl, rfl⟩
              · have HE := Aside0.mk (show arZ k = -1 by unfold arZ; rw [if_neg (by omega), if_neg (by omega), if_neg h5])
                have b1 : (k == 1) = false := by simp [h1]
                have b2 : (k == 2) = false := by simp [h2]
                have b3 : (k == 3) = false := by simp [h3]
                have b4 : (k == 4) = false := by simp [h4]
                have b5 : (k == 5) = false := by simp [h5]
                have b6 : (k == 6) = false := by simp [h6]
                have b7 : (k == 7) = false := by simp [h7]
                go_wp2
                go_ret
                rw [HE.out]
                exact ⟨rfl, rfl⟩
abbrev kidsM (v : Int) (t : Tm) (d b : Int) : Fin (nK t) → Int × Int → Bool × (Int × Int) := fun (i : Fin (nK t)) s => foldP (mtF v) (kidF t i) (d + 1) (b + moreZ t i) s
theorem mt_long {v : Int} {t : Tm} {d b s : Int} (h : 64 < d ∨ 400 < s + 1) : foldP (mtF v) t d b (s, 0) = (false, (s + 1, 2)) := by
  have h1 := mtF_long (v := v) (t := t) (b := b) (s := (s, 0)) h
  rw [foldP_stop (by rw [h1]), h1]
theorem mt_stop {v : Int} {t : Tm} {d b s m : Int} (h : ¬ (64 < d ∨ 400 < s + 1)) (hm : mnP v t = m) (h0 : m ≠ 0) : foldP (mtF v) t d b (s, 0) = (false, (s + 1, m)) := by
  have h1 := mtF_node (v := v) (t := t) (b := b) (s := (s, 0)) h
  rw [hm, decide_eq_false h0] at h1
  rw [foldP_stop (by rw [h1]), h1]
theorem mt_go {v : Int} {t : Tm} {d b s : Int} (h : ¬ (64 < d ∨ 400 < s + 1)) (hm : mnP v t = 0) : foldP (mtF v) t d b (s, 0) = runL (kidsM v t d b) (List.finRange (nK t)) (s + 1, 0) := by
  have h1 := mtF_node (v := v) (t := t) (b := b) (s := (s, 0)) h
  rw [hm] at h1
  rw [foldP_go (by rw [h1]; rfl), h1]
theorem mt_leaf {v : Int} {t : Tm} {d b s : Int} (h : ¬ (64 < d ∨ 400 < s + 1)) (hm : mnP v t = 0) (hk : arZ t.kind = 0) : foldP (mtF v) t d b (s, 0) = (true, (s + 1, 0)) := by
  rw [mt_go h hm]
  have : List.finRange (nK t) = [] := List.eq_nil_of_length_eq_zero (by simp [mn_nK hm]; have := mn_arity hm; rw [hk] at this; simpa using this)
  rw [this]; rfl
/-- It goes to the end just if it tells 0. -/
theorem mt_true (v : Int) (N : Nat) : ∀ (t : Tm), SizeOf.sizeOf t < N → ∀ (d b : Int) (s : Int × Int), ((foldP (mtF v) t d b s).1 = true ↔ (foldP (mtF v) t d b s).2.2 = 0) := by
  induction N with
  | zero => intro t h; omega
  | succ N ih =>
    intro t hN d b s
    by_cases h1 : (mtF v t d b s).1 = true
    · rw [foldP_go h1]
      have h0 : (mtF v t d b s).2.2 = 0 := by
        by_cases h : 64 < d ∨ 400 < s.1 + 1
        · rw [mtF_long h] at h1; cases h1
        · rw [mtF_node h] at h1 ⊢; exact of_decide_eq_true h1
      have key : ∀ (xs : List (Fin (nK t))) (s : Int × Int), s.2 = 0 → ((runL (kidsM v t d b) xs s).1 = true ↔ (runL (kidsM v t d b) xs s).2.2 = 0) := by
        intro xs
        induction xs with
        | nil => intro s hs; exact ⟨fun _ => hs, fun _ => rfl⟩
        | cons x r ihr =>
          intro s hs
          have hx := ih (kidF t x) (by have := kidF_lt t x; omega) (d + 1) (b + moreZ t x) s
          rw [runL]
          by_cases hc : (kidsM v t d b x s).1 = true
          · rw [if_pos hc]
            exact ihr _ (hx.1 hc)
          · rw [if_neg hc]
            exact ⟨fun h => (by cases h), fun h => absurd (hx.2 h) hc⟩
      exact key _ _ h0
    · have h2 : (mtF v t d b s).1 = false := by simpa using h1
      rw [foldP_stop h2]
      by_cases h : 64 < d ∨ 400 < s.1 + 1
      · rw [mtF_long h]; exact ⟨fun h => (by cases h), fun h => (by cases h)⟩
      · rw [mtF_node h]; exact ⟨fun h => of_decide_eq_true h, fun h => decide_eq_true h⟩
theorem drop_fin {n k : Nat} (h : k < n) : (List.finRange n).drop k = ⟨k, h⟩ :: (List.finRange n).drop (k + 1) := by
  rw [List.drop_eq_getElem_cons (by simpa using h)]
  simp
def MtPost (w : World) (g : Nat) (r : Bool × (Int × Int)) (e : Ending) (w' : World) : Prop := e = .returned (.int .i64 r.2.2) ∧ NumAt w' g r.2.1 ∧ Chg (fun k => k = g) w w'
theorem refmay_at (A : Option Addr) (c m : Nat) (k n : Int) (l : Lv) (v : Int) (w : World) (hk : l.kind = k) (hn : l.num = n) (hm : l.kids.length = m) (hin : LvIn w w.heap.size A c l) :
    Calls Try.prog 53 #[.agg #[.int .i64 k, .int .i64 n, .slice A m c], .int .i64 v] w fun e w' => e = .returned (.int .i64 (mayB v l)) ∧ Below w.heap.size w w' := by
  subst hk; subst hn; subst hm
  exact refMay_calls A c l v w hin
set_option maxRecDepth 100000 in
set_option maxHeartbeats 16000000 in
theorem ref_mayt (v : Int) (N : Nat) : ∀ (t : Tm), SizeOf.sizeOf t < N → ∀ (p : Pl) (d b s : Int) (g B : Nat) (w : World), TmIn w B p t → NumAt w g s → B ≤ g → 0 ≤ s → s ≤ 400 → 0 ≤ d → d ≤ 65 →
    Calls Try.prog 84 #[tmV p t, .int .i64 v, .int .i64 d, .pointer (some ⟨g, 0, none⟩)] w (MtPost w g (foldP (mtF v) t d b (s, 0))) := by
  induction N with
  | zero => intro t h; omega
  | succ N ih =>
    intro t hN p d b s g B w hin hg hBg hs0 hs1 hd0 hd1
    have IH := Aside0.mk ih
    have HNN := Aside0.mk hN
    obtain ⟨W, hW⟩ : ∃ W, W = (w.setCell ⟨g, 0, none⟩ (.int .i64 (s + 1))).alloc (tmO p t) := ⟨_, rfl⟩
    have hz1 := blk_lt hg
    have cs := chg_set w g 0 (.int .i64 (s + 1))
    have hch : Chg (fun k => k = g) w W := by rw [hW]; exact chg_trans cs (chg_alloc _ _ _)
    have HCH := Aside0.mk hch
    have K1 := Aside0.mk (show NumAt W g (s + 1) by rw [hW]; exact (hg.set _).alloc _)
    have HX := Aside0.mk (show W.heap[w.heap.size]? = some (tmO p t) by rw [hW]; have := blk_new (w.setCell ⟨g, 0, none⟩ (.int .i64 (s + 1))) (tmO p t); simpa [World.setCell] using this)
    have hgz := hg.cell
    have hfz := blk_frozen hg 0
    have HIN := Aside0.mk (hin.stay (hch.below (fun k e => by omega) (by omega)))
    have hfit := hin.fit
    have HNM := Aside0.mk hfit.2.1
    have hll := hin.ls.len
    have hlen := hin.len
    simp only [Lv.kids] at hll
    have HKEEP := Aside0.mk (show ∀ (wr : World), Chg (fun k => k = g) w wr → ∀ j, j < B → wr.heap[j]? = W.heap[j]? from fun wr hc j hj => ((hc.block j (by omega) (by omega)).trans (hch.block j (by omega) (by omega)).symm))
    clear ih hN hin hg cs hch hfit
    obtain ⟨pA, pc, pB, pd, pK, pe⟩ := p
    have HLV := Aside0.mk HIN.out.lv.all
    have HLS := Aside0.mk HIN.out.ls.all
    dsimp only at HLV HLS hll hlen
    unfold tmV
    unfold tmO at hW
    dsimp only
    obtain ⟨c0, c1, c2, c3, c4, c5, c6, c7⟩ := row8 HX.out
    dsimp only at c5 c6 c7
    obtain ⟨tk, htk⟩ : ∃ x, t.kind = x := ⟨_, rfl⟩
    obtain ⟨tn, htn⟩ : ∃ x, t.num = x := ⟨_, rfl⟩
    obtain ⟨nm, hnm⟩ : ∃ x, t.name = x := ⟨_, rfl⟩
    obtain ⟨lv, hlv⟩ : ∃ x, t.lv = x := ⟨_, rfl⟩
    obtain ⟨ls, hls⟩ : ∃ x, t.ls = x := ⟨_, rfl⟩
    obtain ⟨L, hL⟩ : ∃ x, t.kids.length = x := ⟨_, rfl⟩
    rw [hlv] at hW HLV c3 c4 c5 ⊢
    rw [hls] at hW HLS hll c6 ⊢
    rw [hnm] at hW HNM c2 ⊢
    rw [htk] at hW c0 ⊢
    rw [htn] at hW c1 ⊢
    rw [hL] at hW hlen c7 ⊢
    obtain ⟨lk, hlk⟩ : ∃ x, lv.kind = x := ⟨_, rfl⟩
    obtain ⟨ln, hln⟩ : ∃ x, lv.num = x := ⟨_, rfl⟩
    obtain ⟨lm, hlm⟩ : ∃ x, lv.kids.length = x := ⟨_, rfl⟩
    obtain ⟨M, hM⟩ : ∃ x, ls.length = x := ⟨_, rfl⟩
    rw [hlk] at hW c3 ⊢
    rw [hln] at hW c4 ⊢
    rw [hlm] at hW c5 ⊢
    rw [hM] at hW hll c6 ⊢
    have HTK := Aside0.mk htk
    have HTN := Aside0.mk htn
    have HNE := Aside0.mk hnm
    have HLVE := Aside0.mk hlv
    have HLSE := Aside0.mk hls
    have HL := Aside0.mk hL
    have HLK := Aside0.mk hlk
    have HLN := Aside0.mk hln
    have HLM := Aside0.mk hlm
    have HM := Aside0.mk hM
    have hM9 : M ≤ 9223372036854775807 := by omega
    have hL9 : L ≤ 9223372036854775807 := by omega
    clear htk htn hnm hlv hls hL hlk hln hlm hM hll hlen
    obtain ⟨ar, har⟩ : ∃ x, x = arZ tk := ⟨_, rfl⟩
    have HAR := Aside0.mk har
    have harI := arZ_in tk
    rw [← har] at harI
    have HAC := Aside0.mk (show ∀ w, Calls Try.prog 39 #[.int .i64 tk] w fun e w' => e = .returned (.int .i64 ar) ∧ w' = w from fun w => by rw [har]; exact refkids_calls _ _)
    clear har
    have HLS6 := Aside0.mk c6
    have H7 := Aside0.mk c7
    go_enter Try.func84, Try.ntmps84
    go_upto_block 0 with (fail)
    rw [← hW]
    clear hW
    have k1c := K1.out.cell
    by_cases q : 64 < d ∨ 400 < s + 1
    · have HE := Aside0.mk (mt_long (v := v) (t := t) (b := b) q)
      rcases q with q | q
      · go_wp2
        go_ret
        rw [HE.out]
        exact ⟨rfl, K1.out, HCH.out⟩
      · by_cases q2 : 64 < d
        · go_wp2
          go_ret
          rw [HE.out]
          exact ⟨rfl, K1.out, HCH.out⟩
        · go_wp2
          go_ret
          rw [HE.out]
          exact ⟨rfl, K1.out, HCH.out⟩
    have Q := Aside0.mk q
    have q1 : d ≤ 64 := by omega
    have q2 : s + 1 ≤ 400 := by omega
    clear q
    by_cases h0 : (L : Int) = ar
    · have h0n : 0 ≤ ar := by omega
      have h0' : ((L : Int) != ar) = false := by simp [h0]
      have H0 := Aside0.mk (show (t.kids.length : Int) = arZ t.kind by rw [HL.out, HTK.out, ← HAR.out]; exact h0)
      clear h0 harI
      go_cut [] (fun w2 => Aside0 (mnP v t = 0) ∧ Aside0 (NumAt w2 g (s + 1)) ∧ Aside0 (Chg (fun k => k = g) w w2) ∧ Aside0 (w2.cell? ⟨w.heap.size, 7, none⟩ = some (.slice pK L pe)))
      case first =>
        by_cases k1 : tk = 1
        · have e1 : (tk == 1) = true := by simp [k1]
          have e2 : (tk == 2) = false := by simp [k1]
          have e7 : (tk == 7) = false := by simp [k1]
          by_cases n0 : tn < 0
          · have HR := Aside0.mk (mn_num (v := v) H0.out (by rw [HTK.out, HTN.out]; exact ⟨k1, .inl n0⟩))
            have HE := Aside0.mk (mt_stop (b := b) Q.out HR.out (by decide))
            clear k1
            go_upto_region 4 with (fail)
            go_quiet ((go_at_call 39; exact Calls.quiet_of_same (HAC.out _)))
            go_wp2
            go_ret
            rw [HE.out]
            exact ⟨rfl, K1.out, chg_drewN HCH.out _⟩
          · by_cases n1 : 1048576 < tn
            · have HR := Aside0.mk (mn_num (v := v) H0.out (by rw [HTK.out, HTN.out]; exact ⟨k1, .inr n1⟩))
              have HE := Aside0.mk (mt_stop (b := b) Q.out HR.out (by decide))
              clear k1
              go_upto_region 4 with (fail)
              go_quiet ((go_at_call 39; exact Calls.quiet_of_same (HAC.out _)))
              go_wp2
              go_ret
              rw [HE.out]
              exact ⟨rfl, K1.out, chg_drewN HCH.out _⟩
            · have HR := Aside0.mk (mn_else (v := v) H0.out (by rw [HTK.out, HTN.out]; omega) (by rw [HTK.out]; omega) (by rw [HTK.out]; omega))
              clear k1
              go_upto_region 4 with (fail)
              go_quiet ((go_at_call 39; exact Calls.quiet_of_same (HAC.out _)))
              go_wp2
              go_meet
              case rel => exact ⟨HR, ⟨K1.out⟩, ⟨chg_drewN HCH.out _⟩, ⟨H7.out⟩⟩
        · have e1 : (tk == 1) = false := by simp [k1]
          by_cases k2 : tk = 2
          · have e2 : (tk == 2) = true := by simp [k2]
            have HR := Aside0.mk (mn_sort (v := v) H0.out (by rw [HTK.out]; exact k2))
            have HZ := Aside0.mk (show arZ t.kind = 0 by rw [HTK.out, k2]; decide)
            clear k1 k2
            go_upto_region 4 with (fail)
            go_quiet ((go_at_call 39; exact Calls.quiet_of_same (HAC.out _)))
            go_wp2_with (go_at_call 53; go_must (refine (refmay_at pA pc lm lk ln lv v _ HLK.out HLN.out HLM.out (by exact LvS.same HLV.out (fun _ _ _ => rfl))).mono ?_; rintro e w1 ⟨rfl, hb⟩; have HB1 := Aside0.mk hb; clear hb))
            go_ret
            have hn : NumAt w1 g (s + 1) := (HB1.out.block g (blk_lt K1.out)).trans K1.out
            have hc : Chg (fun k => k = g) w w1 := chg_trans (chg_drewN HCH.out _) (Chg.of_below HB1.out)
            have HR2 : mnP v t = mayB v lv := by rw [HR.out, HLVE.out]
            by_cases hz : mayB v lv = 0
            · rw [mt_leaf Q.out (HR2.trans hz) HZ.out, hz]
              exact ⟨rfl, hn, hc⟩
            · rw [mt_stop Q.out HR2 hz]
              exact ⟨rfl, hn, hc⟩
          · have e2 : (tk == 2) = false := by simp [k2]
            by_cases k7 : tk = 7
            · have e7 : (tk == 7) = true := by simp [k7]
              have HC := Aside0.mk (show mnP v t = if nameB nm = false then 8 else if 6 < ls.length then 2 else mayLs v ls by rw [← HNE.out, ← HLSE.out]; exact mn_const H0.out (by rw [HTK.out]; exact k7))
              clear k1 k2 k7
              cases hnm : nameB nm with
              | false =>
                have HE := Aside0.mk (mt_stop (b := b) Q.out (HC.out.trans (if_pos hnm)) (by decide))
                have HNM2 := Aside0.mk hnm
                clear hnm
                go_upto_region 4 with (fail)
                go_quiet ((go_at_call 39; exact Calls.quiet_of_same (HAC.out _)))
                go_wp2_with (go_at_call 47; go_must (refine (refname_calls nm _ HNM.out).mono ?_; rintro e w1 ⟨rfl, hb⟩; rw [HNM2.out]; have HB1 := Aside0.mk hb; clear hb))
                go_ret
                rw [HE.out]
                exact ⟨rfl, (HB1.out.block g (blk_lt K1.out)).trans K1.out, chg_trans (chg_drewN HCH.out _) (Chg.of_below HB1.out)⟩
              | true =>
                have HNM2 := Aside0.mk hnm
                have HC2 := Aside0.mk (HC.out.trans (if_neg (by rw [hnm]; decide)))
                clear hnm
                by_cases h6 : 6 < M
                · have HE := Aside0.mk (mt_stop (b := b) Q.out (HC2.out.trans (if_pos (by rw [HM.out]; exact h6))) (by decide))
                  have h6' : (6 : Int) < M := by omega
                  go_upto_region 4 with (fail)
                  go_quiet ((go_at_call 39; exact Calls.quiet_of_same (HAC.out _)))
                  go_wp2_with (go_at_call 47; go_must (refine (refname_calls nm _ HNM.out).mono ?_; rintro e w1 ⟨rfl, hb⟩; rw [HNM2.out]; have c6 := (hb.cell (p := ⟨w.heap.size, 6, none⟩) (blk_lt HX.out)).trans c6; have HB1 := Aside0.mk hb; clear hb))
                  go_ret
                  rw [HE.out]
                  exact ⟨rfl, (HB1.out.block g (blk_lt K1.out)).trans K1.out, chg_trans (chg_drewN HCH.out _) (Chg.of_below HB1.out)⟩
                · have HR := Aside0.mk (HC2.out.trans (if_neg (by rw [HM.out]; exact h6)))
                  have h6' : ¬ ((6 : Int) < M) := by omega
                  clear h6
                  go_upto_region 4 with (fail)
                  go_quiet ((go_at_call 39; exact Calls.quiet_of_same (HAC.out _)))
                  go_wp2_with (go_at_call 47; go_must (refine (refname_calls nm _ HNM.out).mono ?_; rintro e w1 ⟨rfl, hb⟩; rw [HNM2.out]; have c6 := (hb.cell (p := ⟨w.heap.size, 6, none⟩) (blk_lt HX.out)).trans c6; have H71 := Aside0.mk ((hb.cell (p := ⟨w.heap.size, 7, none⟩) (blk_lt HX.out)).trans H7.out); have HLS1 := Aside0.mk (LvS.same HLS.out (w' := w1) (fun k _ hk => hb.block k hk)); have HB1 := Aside0.mk hb; clear hb))
                  have HN1 := Aside0.mk (show NumAt w1 g (s + 1) from (HB1.out.block g (blk_lt K1.out)).trans K1.out)
                  have HC1 := Aside0.mk (show Chg (fun k => k = g) w w1 from chg_trans (chg_drewN HCH.out _) (Chg.of_below HB1.out))
                  have hxz := blk_lt HX.out
                  have hz2 := HB1.out.size
                  clear HX K1 HCH
                  go_loopw [80] (fun i wr => ∃ k : Nat, i = .int .i64 k ∧ k ≤ M ∧ Aside0 (mayLs v (ls.drop k) = mayLs v ls) ∧ Aside0 (Below w1.heap.size w1 wr)) (fun i _ => M - (intOf i).toNat)
                  case atStart => exact ⟨0, rfl, Nat.zero_le _, ⟨rfl⟩, ⟨Below.refl _ _⟩⟩
                  case round =>
                    obtain ⟨k, rfl, hk, HK, HBW⟩ := hrel
                    by_cases hlt : k < M
                    · have hlt2 : k < ls.length := by rw [HM.out]; exact hlt
                      obtain ⟨x, hx⟩ : ∃ x, ls[k]? = some x := ⟨_, List.getElem?_eq_getElem hlt2⟩
                      obtain ⟨A', c', hcs, hin⟩ := (LvS.same HLS1.out (w' := wr) (fun j hj _ => HBW.out.block j (Nat.lt_of_lt_of_le hj HB1.out.size))).kid k x hx
                      obtain ⟨ad, rfl, d1, d2, d3⟩ := hcs.facts
                      have HX := Aside0.mk hx
                      have HXIN := Aside0.mk hin.all
                      obtain ⟨xk, hxk⟩ : ∃ y, x.kind = y := ⟨_, rfl⟩
                      obtain ⟨xn, hxn⟩ : ∃ y, x.num = y := ⟨_, rfl⟩
                      obtain ⟨xm, hxm⟩ : ∃ y, x.kids.length = y := ⟨_, rfl⟩
                      rw [hxk] at d1
                      rw [hxn] at d2
                      rw [hxm] at d3
                      have HXK := Aside0.mk hxk
                      have HXN := Aside0.mk hxn
                      have HXM := Aside0.mk hxm
                      clear hcs hx hin hlt2 hxk hxn hxm
                      by_cases h2 : mayB v x = 0
                      · have HK2 := Aside0.mk (show mayLs v (ls.drop (k + 1)) = mayLs v ls by rw [← HK.out, drop_kid HX.out, mayLs_go h2])
                        have HV := Aside0.mk h2
                        clear h2
                        go_wp2_with (go_at_call 53; go_must (refine (refmay_at A' c' xm xk xn x v _ HXK.out HXN.out HXM.out (by exact LvIn.stay' HXIN.out)).mono ?_; rintro e w2 ⟨rfl, hb⟩; rw [HV.out]; have HB3 := Aside0.mk hb; clear hb))
                        go_roundw
                        case rel => exact ⟨k + 1, by go_num, by omega, HK2, ⟨Below.trans (Below.alloc HBW.out HBW.out.size _) (HB3.out.mono (by simp; have := HBW.out.size; omega))⟩⟩
                        case measure => (simp [intOf]; try omega)
                      · have HV := Aside0.mk (show mayLs v ls = mayB v x by rw [← HK.out, drop_kid HX.out, mayLs_stop h2])
                        have HE := Aside0.mk (mt_stop (b := b) Q.out (HR.out.trans HV.out) h2)
                        obtain ⟨e2, he2⟩ : ∃ e2, e2 = mayB v x := ⟨_, rfl⟩
                        rw [← he2] at h2 HE
                        have h2' : (e2 != 0) = true := by simpa using h2
                        have HE2 := Aside0.mk he2
                        clear h2 he2
                        go_wp2_with (go_at_call 53; go_must (refine (refmay_at A' c' xm xk xn x v _ HXK.out HXN.out HXM.out (by exact LvIn.stay' HXIN.out)).mono ?_; rintro e w2 ⟨rfl, hb⟩; rw [← HE2.out]; have HB3 := Aside0.mk hb; clear hb))
                        go_ret
                        have hbb : Below w1.heap.size w1 w2 := Below.trans (Below.alloc HBW.out HBW.out.size _) (HB3.out.mono (by simp; have := HBW.out.size; omega))
                        rw [HE.out]
                        exact ⟨rfl, (hbb.block g (blk_lt HN1.out)).trans HN1.out, chg_trans HC1.out (Chg.of_below hbb)⟩
                    · obtain rfl : k = M := by omega
                      have hlt' : decide ((k : Int) < k) = false := by simp
                      have HZ := Aside0.mk (show mnP v t = 0 by rw [HR.out, ← HK.out, List.drop_of_length_le (by rw [HM.out]; exact Nat.le_refl _), mayLs])
                      go_wp2
                      go_meet
                      case rel => exact ⟨HZ, ⟨(HBW.out.block g (blk_lt HN1.out)).trans HN1.out⟩, ⟨chg_trans HC1.out (Chg.of_below HBW.out)⟩, ⟨(HBW.out.cell (p := ⟨w.heap.size, 7, none⟩) (Nat.lt_of_lt_of_le hxz hz2)).trans H71.out⟩⟩
            · have e7 : (tk == 7) = false := by simp [k7]
              have HR := Aside0.mk (mn_else (v := v) H0.out (by rw [HTK.out]; omega) (by rw [HTK.out]; omega) (by rw [HTK.out]; omega))
              clear k1 k2 k7
              go_upto_region 4 with (fail)
              go_quiet ((go_at_call 39; exact Calls.quiet_of_same (HAC.out _)))
              go_wp2
              go_meet
              case rel => exact ⟨HR, ⟨K1.out⟩, ⟨chg_drewN HCH.out _⟩, ⟨H7.out⟩⟩
      case rest =>
        clear HLS HLV HNM HLS6 HX c0 c1 c2 c3 c4 c5 c6 c7 k1c H7 HAC K1 HCH
        obtain ⟨HM0, K2, HC2, C7⟩ := hcut
        have HNK := Aside0.mk (show nK t = L by rw [mn_nK HM0.out, HL.out])
        have HE := Aside0.mk (mt_go (b := b) Q.out HM0.out)
        have c7 := C7.out
        go_wp2
        go_loopw [94] (fun i wr => ∃ (k : Nat) (s' : Int), i = .int .i64 k ∧ k ≤ L ∧ 0 ≤ s' ∧ s' ≤ 400 ∧ Aside0 (runL (kidsM v t d b) ((List.finRange (nK t)).drop k) (s', 0) = foldP (mtF v) t d b (s, 0)) ∧ Aside0 (NumAt wr g s') ∧ Aside0 (Chg (fun k => k = g) w wr)) (fun i _ => L - (intOf i).toNat)
        case atStart => exact ⟨0, s + 1, rfl, Nat.zero_le _, by omega, by omega, ⟨by rw [HE.out]; rfl⟩, K2, HC2⟩
        case round =>
          clear HE K2 HC2 C7 c7
          obtain ⟨k, s', rfl, hk, hs4, hs5, HE, HG1, HC1⟩ := hrel
          by_cases hlt : k < L
          · have hkn : k < nK t := by rw [HNK.out]; exact hlt
            obtain ⟨qq, hq⟩ := (TmS.same HIN.out (w' := wr) (fun j hj hz => HKEEP.out wr HC1.out j hj)).kid
            obtain ⟨⟨bk, o, hKa, hSb, hcells⟩, hxin⟩ := hq k _ (kidF_get t ⟨k, hkn⟩)
            have HXL := Aside0.mk (kidF_lt t ⟨k, hkn⟩)
            have HDF := Aside0.mk (drop_fin hkn)
            obtain ⟨x, hx⟩ : ∃ x, x = kidF t ⟨k, hkn⟩ := ⟨_, rfl⟩
            rw [← hx] at hcells hxin HXL
            dsimp only at hKa
            subst hKa
            have e0 := hcells 0 _ rfl
            have e1 := hcells 1 _ rfl
            have e2 := hcells 2 _ rfl
            have e3 := hcells 3 _ rfl
            have e4 := hcells 4 _ rfl
            have e5 := hcells 5 _ rfl
            have e6 := hcells 6 _ rfl
            have e7 := hcells 7 _ rfl
            rw [Nat.add_zero] at e0
            have HXIN := Aside0.mk hxin
            have HXE := Aside0.mk hx
            obtain ⟨b2, hb2⟩ : ∃ b2, b2 = b + moreZ t k := ⟨_, rfl⟩
            have HB2 := Aside0.mk hb2
            clear hcells hx hxin hq hb2
            have hg1z := blk_lt HG1.out
            obtain ⟨ev, s2, m2, hev⟩ : ∃ ev s2 m2, foldP (mtF v) x (d + 1) b2 (s', 0) = (ev, (s2, m2)) := ⟨_, _, _, rfl⟩
            have HEV := Aside0.mk hev
            have HT := Aside0.mk (mt_true v _ x (Nat.lt_succ_self _) (d + 1) b2 (s', 0))
            rw [hev] at HT
            have HIV := Aside0.mk (show ev = true → InvY (s2, m2) from fun h => by have := foldP_inv (F := mtF v) (Inv := InvY) (P := fun _ d => 0 ≤ d ∧ d ≤ 65) (fun t d b s hP hI h => mtF_ok hP hI h) _ x (Nat.lt_succ_self _) (d + 1) b2 (s', 0) ⟨by omega, by omega⟩ ⟨hs4, hs5⟩ (by rw [hev]; exact h); rwa [hev] at this)
            have HSTEP := Aside0.mk (show runL (kidsM v t d b) ((List.finRange (nK t)).drop k) (s', 0) = if ev = true then runL (kidsM v t d b) ((List.finRange (nK t)).drop (k + 1)) (s2, m2) else (false, (s2, m2)) by
              rw [HDF.out, runL]
              have hh : kidsM v t d b ⟨k, hkn⟩ (s', 0) = (ev, (s2, m2)) := by show foldP (mtF v) (kidF t ⟨k, hkn⟩) (d + 1) (b + moreZ t k) (s', 0) = _; rw [← HXE.out, ← HB2.out]; exact hev
              rw [hh])
            clear hev
            cases ev with
            | true =>
              have hm2 : m2 = 0 := HT.out.1 rfl
              subst hm2
              obtain ⟨i1, i2⟩ := HIV.out rfl
              simp only at i1 i2
              have HK2 := Aside0.mk ((HSTEP.out.trans (if_pos rfl)).symm.trans HE.out)
              clear HT HIV HSTEP
              go_wp2_with (go_at_call 84; go_must (refine (IH.out x (by have := HXL.out; have := HNN.out; omega) (qq k) (d + 1) b2 s' g B _ (TmIn.stay HXIN.out ((Below.refl _ _).alloc (by omega) _)) (HG1.out.alloc _) (by omega) hs4 hs5 (by omega) (by omega)).mono ?_; rintro e w3 ⟨rfl, hg1, hc1⟩; rw [HEV.out] at hg1 ⊢; have HG2 := Aside0.mk hg1; have HC3 := Aside0.mk (chg_trans HC1.out (chg_trans (chg_alloc _ _ _) hc1)); clear hg1 hc1))
              go_roundw
              case rel => exact ⟨k + 1, s2, by go_num, by omega, i1, i2, HK2, HG2, HC3⟩
              case measure => (simp [intOf]; try omega)
            | false =>
              have hm2 : m2 ≠ 0 := fun h => by have := HT.out.2 h; cases this
              have hm2' : (m2 != 0) = true := by simpa using hm2
              have HK2 := Aside0.mk ((HSTEP.out.trans (if_neg (by decide))).symm.trans HE.out)
              clear HT HIV HSTEP hm2
              go_wp2_with (go_at_call 84; go_must (refine (IH.out x (by have := HXL.out; have := HNN.out; omega) (qq k) (d + 1) b2 s' g B _ (TmIn.stay HXIN.out ((Below.refl _ _).alloc (by omega) _)) (HG1.out.alloc _) (by omega) hs4 hs5 (by omega) (by omega)).mono ?_; rintro e w3 ⟨rfl, hg1, hc1⟩; rw [HEV.out] at hg1 ⊢; have HG2 := Aside0.mk hg1; have HC3 := Aside0.mk (chg_trans HC1.out (chg_trans (chg_alloc _ _ _) hc1)); clear hg1 hc1))
              go_ret
              rw [← HK2.out]
              exact ⟨rfl, HG2.out, HC3.out⟩
          · obtain rfl : k = L := by omega
            have hlt' : decide ((k : Int) < k) = false := by simp
            have HZ := Aside0.mk (show foldP (mtF v) t d b (s, 0) = (true, (s', 0)) by rw [← HE.out, List.drop_of_length_le (by rw [List.length_finRange, HNK.out]; exact Nat.le_refl _)]; rfl)
            go_wp2
            go_ret
            rw [HZ.out]
            exact ⟨rfl, HG1.out, HC1.out⟩
    · have h0' : ((L : Int) != ar) = true := by simp [h0]
      have HR := Aside0.mk (mn_kids (v := v) (t := t) (by rw [HL.out, HTK.out, ← HAR.out]; exact h0))
      have HE := Aside0.mk (mt_stop (b := b) Q.out HR.out (by decide))
      clear h0
      by_cases ha : ar < 0
      · go_upto_region 4 with (fail)
        go_quiet ((go_at_call 39; exact Calls.quiet_of_same (HAC.out _)))
        go_wp2
        go_ret
        rw [HE.out]
        exact ⟨rfl, K1.out, chg_drewN HCH.out _⟩
      · have ha' : 0 ≤ ar := by omega
        go_upto_region 4 with (fail)
        go_quiet ((go_at_call 39; exact Calls.quiet_of_same (HAC.out _)))
        go_wp2
        go_ret
        rw [HE.out]
        exact ⟨rfl, K1.out, chg_drewN HCH.out _⟩
end Go.Proofs.Ytdboloabpjmgaaa

/-! RMay -/
namespace Go.Proofs.Ytdboloabpjmgaaa
open Go.RowKit Go.Proofs.YtdboloabpjmgaaaW.PrintWords Go.RegionInvYtdboloabpjmgaaa

set_option maxHeartbeats 4000000 in
theorem refmayt_calls (t : Tm) (p : Pl) (v : Int) (w : World) (hin : TmIn w w.heap.size p t) :
    Calls Try.prog 45 #[tmV p t, .int .i64 v] w fun e w' => e = .returned (.int .i64 (mayT v t)) ∧ Below w.heap.size w w' := by
  have HIN := Aside0.mk hin
  obtain ⟨W, hW⟩ : ∃ W, W = (w.alloc (tmO p t)).alloc (.cells #[.int .i64 0] 3 (0, 0)) := ⟨_, rfl⟩
  have hb : Below w.heap.size w W := by rw [hW]; exact below_alloc (below_alloc (Below.refl _ _) _) _
  have HX := Aside0.mk (show W.heap[w.heap.size]? = some (tmO p t) by rw [hW]; exact blk_alloc (blk_new _ _) _)
  have HN1 := Aside0.mk (show NumAt W (w.heap.size + 1) 0 by rw [hW]; have := blk_new (w.alloc (tmO p t)) (.cells #[.int .i64 0] 3 (0, 0)); simp only [World.size_alloc] at this; exact this)
  have HB := Aside0.mk hb
  clear hin hb
  unfold tmV
  unfold tmO at hW
  go_enter Try.func45, Try.ntmps45
  go_upto_region 2 with (fail)
  rw [← hW]
  clear hW
  obtain ⟨c0, c1, c2, c3, c4, c5, c6, c7⟩ := row8 HX.out
  go_wp2_with (go_at_call 84; go_must (refine (ref_mayt v _ t (Nat.lt_succ_self _) p 1 0 0 (w.heap.size + 1) w.heap.size W (HIN.out.stay HB.out) HN1.out (by omega) (by decide) (by decide) (by decide) (by decide)).mono ?_; rintro e w2 ⟨rfl, -, hC⟩; have HB2 := Aside0.mk (Chg.trans_below HB.out hC (fun k h => by omega) HB.out.size); clear hC))
  go_ret
  exact ⟨rfl, HB2.out⟩
end Go.Proofs.Ytdboloabpjmgaaa

/-! TMyR -/
namespace Go.Proofs.Ytdboloabpjmgaaa
open Go.RowKit Go.Proofs.YtdboloabpjmgaaaW.PrintWords Go.RegionInvYtdboloabpjmgaaa Go.RegionEYtdboloabpjmgaaa
set_option linter.unusedVariables false

def ty_ops : List Oper := [
  { dst := some 7, op := Go.Op.load 28 (Go.Operand.tmp 3), type := 28, pos := "law.go:94", after := #[], guard := none },
  { dst := some 8, op := Go.Op.move (Go.Operand.tmp 1), type := 3, pos := "law.go:94", after := #[], guard := none },
  { dst := some 9, op := Go.Op.call { callee := Go.Callee.value (Go.Operand.func 44), args := #[Go.Operand.tmp 7, Go.Operand.tmp 8], argTypes := #[28, 3] }, type := 49, pos := "law.go:94", after := #[{ on := 0, ground := Go.Ground.data }, { on := 1, ground := Go.Ground.data }], guard := none },
  { dst := some 10, op := Go.Op.load 28 (Go.Operand.tmp 3), type := 28, pos := "law.go:94", after := #[], guard := none },
  { dst := some 11, op := Go.Op.move (Go.Operand.tmp 1), type := 3, pos := "law.go:94", after := #[], guard := none },
  { dst := some 12, op := Go.Op.call { callee := Go.Callee.value (Go.Operand.func 45), args := #[Go.Operand.tmp 10, Go.Operand.tmp 11], argTypes := #[28, 3] }, type := 49, pos := "law.go:94", after := #[{ on := 3, ground := Go.Ground.data }, { on := 4, ground := Go.Ground.data }, { on := 2, ground := Go.Ground.chain }], guard := none },
  { dst := some 13, op := Go.Op.binOp Go.BinOp.eql 49 (Go.Operand.tmp 9) (Go.Operand.tmp 12) 49, type := 4, pos := "law.go:94", after := #[{ on := 2, ground := Go.Ground.data }, { on := 5, ground := Go.Ground.data }], guard := none },
  { dst := some 14, op := Go.Op.move (Go.Operand.tmp 13), type := 4, pos := "law.go:94", after := #[{ on := 6, ground := Go.Ground.data }, { on := 5, ground := Go.Ground.chain }], guard := none },
  { dst := some 15, op := Go.Op.move (Go.Operand.tmp 2), type := 9, pos := "law.go:94", after := #[{ on := 7, ground := Go.Ground.guard }], guard := some (7, true) },
  { dst := some 16, op := Go.Op.call { callee := Go.Callee.value (Go.Operand.func 46), args := #[Go.Operand.tmp 15], argTypes := #[9] }, type := 4, pos := "law.go:94", after := #[{ on := 8, ground := Go.Ground.data }, { on := 7, ground := Go.Ground.chain }, { on := 7, ground := Go.Ground.guard }], guard := some (7, true) },
  { dst := some 17, op := Go.Op.move (Go.Operand.tmp 2), type := 9, pos := "law.go:94", after := #[{ on := 7, ground := Go.Ground.guard }], guard := some (7, true) },
  { dst := some 18, op := Go.Op.call { callee := Go.Callee.value (Go.Operand.func 47), args := #[Go.Operand.tmp 17], argTypes := #[9] }, type := 4, pos := "law.go:94", after := #[{ on := 10, ground := Go.Ground.data }, { on := 9, ground := Go.Ground.chain }, { on := 7, ground := Go.Ground.guard }], guard := some (7, true) },
  { dst := some 19, op := Go.Op.binOp Go.BinOp.eql 4 (Go.Operand.tmp 16) (Go.Operand.tmp 18) 4, type := 4, pos := "law.go:94", after := #[{ on := 9, ground := Go.Ground.data }, { on := 11, ground := Go.Ground.data }, { on := 7, ground := Go.Ground.guard }], guard := some (7, true) },
  { dst := some 20, op := Go.Op.pick (Go.Operand.tmp 14) (Go.Operand.tmp 19) (Go.Operand.const (Go.Value.bool false)), type := 4, pos := "law.go:94", after := #[{ on := 7, ground := Go.Ground.data }, { on := 12, ground := Go.Ground.data }], guard := none },
  { dst := some 21, op := Go.Op.move (Go.Operand.tmp 20), type := 4, pos := "law.go:94", after := #[{ on := 13, ground := Go.Ground.data }, { on := 11, ground := Go.Ground.chain }], guard := none },
  { dst := some 22, op := Go.Op.call { callee := Go.Callee.value (Go.Operand.func 25), args := #[], argTypes := #[] }, type := 4, pos := "law.go:94", after := #[{ on := 14, ground := Go.Ground.chain }, { on := 14, ground := Go.Ground.guard }], guard := some (14, true) },
  { dst := some 23, op := Go.Op.pick (Go.Operand.tmp 21) (Go.Operand.tmp 22) (Go.Operand.const (Go.Value.bool false)), type := 4, pos := "law.go:94", after := #[{ on := 14, ground := Go.Ground.data }, { on := 15, ground := Go.Ground.data }], guard := none },
  { dst := some 6, op := Go.Op.assign (Go.Operand.tmp 23), type := 4, pos := "law.go:94", after := #[{ on := 16, ground := Go.Ground.data }, { on := 15, ground := Go.Ground.chain }, { on := 0, ground := Go.Ground.phase }, { on := 1, ground := Go.Ground.phase }, { on := 2, ground := Go.Ground.phase }, { on := 3, ground := Go.Ground.phase }, { on := 4, ground := Go.Ground.phase }, { on := 5, ground := Go.Ground.phase }, { on := 6, ground := Go.Ground.phase }, { on := 7, ground := Go.Ground.phase }, { on := 8, ground := Go.Ground.phase }, { on := 9, ground := Go.Ground.phase }, { on := 10, ground := Go.Ground.phase }, { on := 11, ground := Go.Ground.phase }, { on := 12, ground := Go.Ground.phase }, { on := 13, ground := Go.Ground.phase }, { on := 14, ground := Go.Ground.phase }, { on := 15, ground := Go.Ground.phase }, { on := 16, ground := Go.Ground.phase }], guard := none }]
def ty_F (w0 : World) (g : Nat) (p : Pl) (t : Tm) (vn : Int) (nm : ByteArray) : Nat → (Nat → Value) → Value → World → (Nat → Prop) → Prop := fun rix => match rix with
  | 0 => fun _ v _ _ => v = tmV p t
  | 1 => fun _ v _ _ => v = .int .i64 vn
  | 2 => fun _ v _ _ => v = .int .i64 (mayT vn t)
  | 3 => fun _ v _ _ => v = tmV p t
  | 4 => fun _ v _ _ => v = .int .i64 vn
  | 5 => fun _ v _ _ => v = .int .i64 (mayT vn t)
  | 6 => fun _ v _ _ => v = .bool true
  | 7 => fun _ v _ _ => v = .bool true
  | 8 => fun _ v _ _ => v = .string nm
  | 9 => fun _ v _ _ => v = .bool (nameB nm)
  | 10 => fun _ v _ _ => v = .string nm
  | 11 => fun _ v _ _ => v = .bool (nameB nm)
  | 12 => fun _ v _ _ => v = .bool true
  | 13 => fun _ v _ _ => v = .bool true
  | 14 => fun _ v _ _ => v = .bool true
  | 15 => fun _ v _ _ => v = .bool true
  | 16 => fun _ v _ _ => v = .bool true
  | 17 => fun _ v _ _ => v = .bool true
  | _ => fun _ _ _ _ => True
def ty_C : Nat → List Nat := fun rix => match rix with
  | _ => []
theorem ty_nw1 : nwB ty_ops.toArray 1 = true := by kernel_rfl
theorem ty_nw2 : nwB ty_ops.toArray 2 = true := by kernel_rfl
theorem ty_nw3 : nwB ty_ops.toArray 3 = true := by kernel_rfl
set_option maxRecDepth 100000 in
set_option maxHeartbeats 8000000 in
theorem ty_obs (w0 : World) (g : Nat) (p : Pl) (t : Tm) (vn : Int) (nm : ByteArray) (hx : w0.heap[g]? = some (tmO p t)) (hin : TmIn w0 w0.heap.size p t) (hs : nm.size ≤ 140737488355328) (Q : Exit → Act → World → Prop) (a0 : Act) (hi1 : a0.tmps.getD 1 undef = .int .i64 vn) (hi2 : a0.tmps.getD 2 undef = .string nm) (hi3 : a0.tmps.getD 3 undef = .pointer (some ⟨g, 0, none⟩)) :
    ObsE Try.prog ty_ops.toArray Q (est2 0 0 (fun _ => False) (fun _ => False)) ty_C (ty_F w0 g p t vn nm) a0 w0 ty_ops.toArray.toList 0 := by
  have nw1 := ty_nw1
  have nw2 := ty_nw2
  have nw3 := ty_nw3
  refine ⟨?_, ?_, ?_, ?_, ?_, ?_, ?_, ?_, ?_, ?_, ?_, ?_, ?_, ?_, ?_, ?_, ?_, ?_, trivial⟩
  · refine ⟨⟨fun τ => stableE_det _, leans_not⟩, ?_⟩
    intro a w O hk
    have e3 : a.eval (.tmp 3) = .pointer (some ⟨g, 0, none⟩) := (hk.init 3 (initialB_of_nw nw3)).trans hi3
    have x1 := hk.world.still hx (fun ⟨_, h⟩ => h.elim And.right And.right)
    exact obE_loadRow rfl e3 x1 Try.underlying28 rfl (by kernel_rfl) (wanted_none rfl) rfl
  · refine ⟨⟨fun τ => stableE_det _, leans_not⟩, ?_⟩
    intro a w O hk
    have e1 : a.eval (.tmp 1) = .int .i64 vn := (hk.init 1 (initialB_of_nw nw1)).trans hi1
    exact toE (ob_move rfl e1 (wanted_none rfl) rfl)
  · refine ⟨⟨fun τ => stableE_det _, leans_not⟩, ?_⟩
    intro a w O hk
    have e7 : a.eval (.tmp 7) = tmV p t := hk.fact 0 _ 7 rfl rfl rfl rfl
    have e8 : a.eval (.tmp 8) = .int .i64 vn := hk.fact 1 _ 8 rfl rfl rfl rfl
    exact obE_callV #[tmV p t, .int .i64 vn] rfl rfl rfl rfl (by simp only [List.map_cons, List.map_nil]; rw [e7, e8]) (wanted_none rfl) (mayt_calls t p vn w (TmS.all (TmIn.stay hin (hk.world.below (fun k ⟨_, h⟩ => h.elim (fun h => h.2.elim) fun h => h.2.elim) (Nat.le_refl _)))))
  · refine ⟨⟨fun τ => stableE_det _, leans_not⟩, ?_⟩
    intro a w O hk
    have e3 : a.eval (.tmp 3) = .pointer (some ⟨g, 0, none⟩) := (hk.init 3 (initialB_of_nw nw3)).trans hi3
    have x1 := hk.world.still hx (fun ⟨_, h⟩ => h.elim And.right And.right)
    exact obE_loadRow rfl e3 x1 Try.underlying28 rfl (by kernel_rfl) (wanted_none rfl) rfl
  · refine ⟨⟨fun τ => stableE_det _, leans_not⟩, ?_⟩
    intro a w O hk
    have e1 : a.eval (.tmp 1) = .int .i64 vn := (hk.init 1 (initialB_of_nw nw1)).trans hi1
    exact toE (ob_move rfl e1 (wanted_none rfl) rfl)
  · refine ⟨⟨fun τ => stableE_det _, leans_not⟩, ?_⟩
    intro a w O hk
    have e10 : a.eval (.tmp 10) = tmV p t := hk.fact 3 _ 10 rfl rfl rfl rfl
    have e11 : a.eval (.tmp 11) = .int .i64 vn := hk.fact 4 _ 11 rfl rfl rfl rfl
    exact obE_callV #[tmV p t, .int .i64 vn] rfl rfl rfl rfl (by simp only [List.map_cons, List.map_nil]; rw [e10, e11]) (wanted_none rfl) (refmayt_calls t p vn w (TmS.all (TmIn.stay hin (hk.world.below (fun k ⟨_, h⟩ => h.elim (fun h => h.2.elim) fun h => h.2.elim) (Nat.le_refl _)))))
  · refine ⟨⟨fun τ => stableE_det _, leans_not⟩, ?_⟩
    intro a w O hk
    have e9 : a.eval (.tmp 9) = .int .i64 (mayT vn t) := hk.fact 2 _ 9 rfl rfl rfl rfl
    have e12 : a.eval (.tmp 12) = .int .i64 (mayT vn t) := hk.fact 5 _ 12 rfl rfl rfl rfl
    exact toE (ob_eqlInt true rfl e9 e12 (by simp) (wanted_none rfl) rfl)
  · refine ⟨⟨fun τ => stableE_det _, leans_not⟩, ?_⟩
    intro a w O hk
    have e13 : a.eval (.tmp 13) = .bool true := hk.fact 6 _ 13 rfl rfl rfl rfl
    exact toE (ob_move rfl e13 (wanted_none rfl) rfl)
  · refine ⟨⟨fun τ => stableE_det _, leans_not⟩, ?_⟩
    intro a w O hk
    have e2 : a.eval (.tmp 2) = .string nm := (hk.init 2 (initialB_of_nw nw2)).trans hi2
    have e14 : a.eval (.tmp 14) = .bool true := hk.fact 7 _ 14 rfl rfl rfl rfl
    exact toE (ob_move rfl e2 (wanted_of rfl rfl rfl e14) rfl)
  · refine ⟨⟨fun τ => stableE_det _, leans_not⟩, ?_⟩
    intro a w O hk
    have e15 : a.eval (.tmp 15) = .string nm := hk.fact 8 _ 15 rfl rfl rfl rfl
    have e14 : a.eval (.tmp 14) = .bool true := hk.fact 7 _ 14 rfl rfl rfl rfl
    exact obE_callV #[.string nm] rfl rfl rfl rfl (by simp only [List.map_cons, List.map_nil]; rw [e15]) (wanted_of rfl rfl rfl e14) (name_calls nm w)
  · refine ⟨⟨fun τ => stableE_det _, leans_not⟩, ?_⟩
    intro a w O hk
    have e2 : a.eval (.tmp 2) = .string nm := (hk.init 2 (initialB_of_nw nw2)).trans hi2
    have e14 : a.eval (.tmp 14) = .bool true := hk.fact 7 _ 14 rfl rfl rfl rfl
    exact toE (ob_move rfl e2 (wanted_of rfl rfl rfl e14) rfl)
  · refine ⟨⟨fun τ => stableE_det _, leans_not⟩, ?_⟩
    intro a w O hk
    have e17 : a.eval (.tmp 17) = .string nm := hk.fact 10 _ 17 rfl rfl rfl rfl
    have e14 : a.eval (.tmp 14) = .bool true := hk.fact 7 _ 14 rfl rfl rfl rfl
    exact obE_callV #[.string nm] rfl rfl rfl rfl (by simp only [List.map_cons, List.map_nil]; rw [e17]) (wanted_of rfl rfl rfl e14) (refname_calls nm w hs)
  · refine ⟨⟨fun τ => stableE_det _, leans_not⟩, ?_⟩
    intro a w O hk
    have e16 : a.eval (.tmp 16) = .bool (nameB nm) := hk.fact 9 _ 16 rfl rfl rfl rfl
    have e18 : a.eval (.tmp 18) = .bool (nameB nm) := hk.fact 11 _ 18 rfl rfl rfl rfl
    have e14 : a.eval (.tmp 14) = .bool true := hk.fact 7 _ 14 rfl rfl rfl rfl
    have x1 := hk.world.still hx (fun ⟨_, h⟩ => h.elim And.right And.right)
    exact obE_run (wanted_of rfl rfl rfl e14) (by unfold execOp; simp only []; rw [e16, e18]; go_simp) rfl
  · refine ⟨⟨fun τ => stableE_det _, leans_not⟩, ?_⟩
    intro a w O hk
    have e14 : a.eval (.tmp 14) = .bool true := hk.fact 7 _ 14 rfl rfl rfl rfl
    have e19 : a.eval (.tmp 19) = .bool true := hk.fact 12 _ 19 rfl rfl rfl rfl
    exact toE (ob_pick rfl e14 e19 (wanted_none rfl) rfl)
  · refine ⟨⟨fun τ => stableE_det _, leans_not⟩, ?_⟩
    intro a w O hk
    have e20 : a.eval (.tmp 20) = .bool true := hk.fact 13 _ 20 rfl rfl rfl rfl
    exact toE (ob_move rfl e20 (wanted_none rfl) rfl)
  · refine ⟨⟨fun τ => stableE_det _, leans_not⟩, ?_⟩
    intro a w O hk
    have e21 : a.eval (.tmp 21) = .bool true := hk.fact 14 _ 21 rfl rfl rfl rfl
    exact obE_callV #[] rfl rfl rfl rfl rfl (wanted_of rfl rfl rfl e21) (awake_calls w)
  · refine ⟨⟨fun τ => stableE_det _, leans_not⟩, ?_⟩
    intro a w O hk
    have e21 : a.eval (.tmp 21) = .bool true := hk.fact 14 _ 21 rfl rfl rfl rfl
    have e22 : a.eval (.tmp 22) = .bool true := hk.fact 15 _ 22 rfl rfl rfl rfl
    exact toE (ob_pick rfl e21 e22 (wanted_none rfl) rfl)
  · refine ⟨⟨fun τ => stableE_det _, leans_not⟩, ?_⟩
    intro a w O hk
    have e23 : a.eval (.tmp 23) = .bool true := hk.fact 16 _ 23 rfl rfl rfl rfl
    exact toE (ob_assign rfl e23 (wanted_none rfl) rfl)
set_option maxRecDepth 100000 in
set_option maxHeartbeats 8000000 in
theorem ty_region {Q : Exit → Act → World → Prop} {id : Nat} (w0 : World) (g : Nat) (p : Pl) (t : Tm) (vn : Int) (nm : ByteArray) {s0 s4 s5 s6 s7 s8 s9 s10 s11 s12 s13 s14 s15 s16 s17 s18 s19 s20 s21 s22 s23 : Value} (hx : w0.heap[g]? = some (tmO p t)) (hin : TmIn w0 w0.heap.size p t) (hs : nm.size ≤ 140737488355328)
    (hend : ∀ (w' : World), Chg (fun k => False ∨ False) w0 w' → Q .normal { tmps := (s0 :: (.int .i64 vn : Value) :: (.string nm : Value) :: (.pointer (some ⟨g, 0, none⟩) : Value) :: s4 :: s5 :: (.bool true : Value) :: (tmV p t : Value) :: (.int .i64 vn : Value) :: (.int .i64 (mayT vn t) : Value) :: (tmV p t : Value) :: (.int .i64 vn : Value) :: (.int .i64 (mayT vn t) : Value) :: (.bool true : Value) :: (.bool true : Value) :: (.string nm : Value) :: (.bool (nameB nm) : Value) :: (.string nm : Value) :: (.bool (nameB nm) : Value) :: (.bool true : Value) :: (.bool true : Value) :: (.bool true : Value) :: (.bool true : Value) :: (.bool true : Value) :: ([] : List Value)).toArray, defers := [] } w') :
    (Code.region id ty_ops.toArray true).wp Try.prog Q { tmps := (s0 :: (.int .i64 vn : Value) :: (.string nm : Value) :: (.pointer (some ⟨g, 0, none⟩) : Value) :: s4 :: s5 :: s6 :: s7 :: s8 :: s9 :: s10 :: s11 :: s12 :: s13 :: s14 :: s15 :: s16 :: s17 :: s18 :: s19 :: s20 :: s21 :: s22 :: s23 :: ([] : List Value)).toArray, defers := [] } w0 := by
  refine wp_region_est (by kernel_rfl) (est2 0 0 (fun _ => False) (fun _ => False)) ty_C (ty_F w0 g p t vn nm) (est2_dis (fun _ h _ => h)) (est2_range (fun _ h => h.elim) (fun _ h => h.elim)) (by rfl) (by kernel_rfl) (ty_obs w0.drew g p t vn nm hx (TmS.same hin (fun _ _ _ => rfl)) hs _ _ rfl rfl rfl) ?_
  intro a w' O hd hs hb hf hf2 ha hsame
  have hx : ∀ (qi : Nat) (qv : Value), nwB ty_ops.toArray qi = true → (s0 :: (.int .i64 vn : Value) :: (.string nm : Value) :: (.pointer (some ⟨g, 0, none⟩) : Value) :: s4 :: s5 :: s6 :: s7 :: s8 :: s9 :: s10 :: s11 :: s12 :: s13 :: s14 :: s15 :: s16 :: s17 :: s18 :: s19 :: s20 :: s21 :: s22 :: s23 :: ([] : List Value)).toArray.getD qi undef = qv → a.tmps.getD qi undef = qv := fun qi qv h e => (hsame qi (nwB.spec h)).trans e
  have x0 := hx 0 s0 (by kernel_rfl) rfl
  have x1 := hx 1 (.int .i64 vn) (by kernel_rfl) rfl
  have x2 := hx 2 (.string nm) (by kernel_rfl) rfl
  have x3 := hx 3 (.pointer (some ⟨g, 0, none⟩)) (by kernel_rfl) rfl
  have x4 := hx 4 s4 (by kernel_rfl) rfl
  have x5 := hx 5 s5 (by kernel_rfl) rfl
  have x6 : a.tmps.getD 6 undef = .bool true := (hf 17 _ 6 rfl rfl (by decide)).1
  have x7 : a.tmps.getD 7 undef = tmV p t := (hf 0 _ 7 rfl rfl (by decide)).1
  have x8 : a.tmps.getD 8 undef = .int .i64 vn := (hf 1 _ 8 rfl rfl (by decide)).1
  have x9 : a.tmps.getD 9 undef = .int .i64 (mayT vn t) := (hf 2 _ 9 rfl rfl (by decide)).1
  have x10 : a.tmps.getD 10 undef = tmV p t := (hf 3 _ 10 rfl rfl (by decide)).1
  have x11 : a.tmps.getD 11 undef = .int .i64 vn := (hf 4 _ 11 rfl rfl (by decide)).1
  have x12 : a.tmps.getD 12 undef = .int .i64 (mayT vn t) := (hf 5 _ 12 rfl rfl (by decide)).1
  have x13 : a.tmps.getD 13 undef = .bool true := (hf 6 _ 13 rfl rfl (by decide)).1
  have x14 : a.tmps.getD 14 undef = .bool true := (hf 7 _ 14 rfl rfl (by decide)).1
  have x15 : a.tmps.getD 15 undef = .string nm := (hf 8 _ 15 rfl rfl (by decide)).1
  have x16 : a.tmps.getD 16 undef = .bool (nameB nm) := (hf 9 _ 16 rfl rfl (by decide)).1
  have x17 : a.tmps.getD 17 undef = .string nm := (hf 10 _ 17 rfl rfl (by decide)).1
  have x18 : a.tmps.getD 18 undef = .bool (nameB nm) := (hf 11 _ 18 rfl rfl (by decide)).1
  have x19 : a.tmps.getD 19 undef = .bool true := (hf 12 _ 19 rfl rfl (by decide)).1
  have x20 : a.tmps.getD 20 undef = .bool true := (hf 13 _ 20 rfl rfl (by decide)).1
  have x21 : a.tmps.getD 21 undef = .bool true := (hf 14 _ 21 rfl rfl (by decide)).1
  have x22 : a.tmps.getD 22 undef = .bool true := (hf 15 _ 22 rfl rfl (by decide)).1
  have x23 : a.tmps.getD 23 undef = .bool true := (hf 16 _ 23 rfl rfl (by decide)).1
  have hl : a.tmps = (s0 :: (.int .i64 vn : Value) :: (.string nm : Value) :: (.pointer (some ⟨g, 0, none⟩) : Value) :: s4 :: s5 :: (.bool true : Value) :: (tmV p t : Value) :: (.int .i64 vn : Value) :: (.int .i64 (mayT vn t) : Value) :: (tmV p t : Value) :: (.int .i64 vn : Value) :: (.int .i64 (mayT vn t) : Value) :: (.bool true : Value) :: (.bool true : Value) :: (.string nm : Value) :: (.bool (nameB nm) : Value) :: (.string nm : Value) :: (.bool (nameB nm) : Value) :: (.bool true : Value) :: (.bool true : Value) :: (.bool true : Value) :: (.bool true : Value) :: (.bool true : Value) :: ([] : List Value)).toArray := by
    have h := lit a.tmps 24 hs
    have e : ((List.range 24).map (fun i => a.tmps.getD i undef)).toArray = ((a.tmps.getD 0 undef : Value) :: (a.tmps.getD 1 undef : Value) :: (a.tmps.getD 2 undef : Value) :: (a.tmps.getD 3 undef : Value) :: (a.tmps.getD 4 undef : Value) :: (a.tmps.getD 5 undef : Value) :: (a.tmps.getD 6 undef : Value) :: (a.tmps.getD 7 undef : Value) :: (a.tmps.getD 8 undef : Value) :: (a.tmps.getD 9 undef : Value) :: (a.tmps.getD 10 undef : Value) :: (a.tmps.getD 11 undef : Value) :: (a.tmps.getD 12 undef : Value) :: (a.tmps.getD 13 undef : Value) :: (a.tmps.getD 14 undef : Value) :: (a.tmps.getD 15 undef : Value) :: (a.tmps.getD 16 undef : Value) :: (a.tmps.getD 17 undef : Value) :: (a.tmps.getD 18 undef : Value) :: (a.tmps.getD 19 undef : Value) :: (a.tmps.getD 20 undef : Value) :: (a.tmps.getD 21 undef : Value) :: (a.tmps.getD 22 undef : Value) :: (a.tmps.getD 23 undef : Value) :: ([] : List Value)).toArray := rfl
    rw [e, x0, x1, x2, x3, x4, x5, x6, x7, x8, x9, x10, x11, x12, x13, x14, x15, x16, x17, x18, x19, x20, x21, x22, x23] at h
    exact h
  obtain ⟨tmps, defers⟩ := a
  obtain rfl : defers = [] := hd
  have hl' : tmps = _ := hl
  rw [hl']
  have hb' := est2_chg hb
  exact hend w' ⟨hb'.os, hb'.tape, hb'.output, hb'.size, hb'.block⟩

end Go.Proofs.Ytdboloabpjmgaaa

/-! LawTM -/
namespace Go.Proofs.Ytdboloabpjmgaaa
open Go.RowKit Go.Proofs.YtdboloabpjmgaaaW.PrintWords Go.RegionInvYtdboloabpjmgaaa Go.RegionEYtdboloabpjmgaaa

set_option maxRecDepth 100000 in
set_option maxHeartbeats 8000000 in
theorem termMay_calls (t : Tm) (p : Pl) (v : Int) (nm : ByteArray) (w : World) (hin : TmIn w w.heap.size p t) (hs : nm.size ≤ 140737488355328) :
    Calls Try.prog 7 #[tmV p t, .int .i64 v, .string nm] w fun e w' => e = .returned (.bool true) ∧ Below w.heap.size w w' := by
  have HIN := Aside0.mk hin
  obtain ⟨W, hW⟩ : ∃ W, W = w.alloc (tmO p t) := ⟨_, rfl⟩
  have hb : Below w.heap.size w W := by rw [hW]; exact below_alloc (Below.refl _ _) _
  have HX := Aside0.mk (show W.heap[w.heap.size]? = some (tmO p t) by rw [hW]; exact blk_new _ _)
  have HB := Aside0.mk hb
  clear hin hb
  unfold tmV
  unfold tmO at hW
  go_enter Try.func7, Try.ntmps7
  go_upto_region 1 with (fail)
  rw [← hW]
  clear hW
  refine ty_region W w.heap.size p t v nm HX.out (TmS.all (TmIn.stay HIN.out HB.out)) hs ?_
  intro w9 hch
  have HBN := Aside0.mk (below_then HB.out HB.out.size (hch.below (fun _ h => h.elim False.elim False.elim) (Nat.le_refl _)))
  clear hch
  go_wp2
  go_ret
  exact ⟨rfl, HBN.out⟩
end Go.Proofs.Ytdboloabpjmgaaa

/-! LvIn -/
namespace Go.Proofs.Ytdboloabpjmgaaa
open Go.RowKit Go.Proofs.YtdboloabpjmgaaaW.PrintWords Go.RegionInvYtdboloabpjmgaaa Go.ChangeShapes Go.WideShapes Go.Deep

instance : Inhabited Lv := ⟨.mk 0 0 []⟩
set_option maxRecDepth 100000 in
theorem lv_open {H : Type} {enc : TypeId × Value → H} {W : World} {base : Nat} {sp : Nat → Bool} {held : Bool} (F : Nat) : ∀ (fuel : Nat), fuel ≤ F → ∀ (cs : List Value) (x : DataW H × List MemPlace),
    DataW.trod enc Try.prog W base sp held fuel 25 cs = some x → ∃ (l : Lv) (A : Option Addr) (c : Nat), cs = [.int .i64 l.kind, .int .i64 l.num, .slice A l.kids.length c] ∧ LvS W (fun _ => True) A c l ∧ (Lit.int .i64 l.kind).wf = true ∧ (Lit.int .i64 l.num).wf = true := by
  induction F with
  | zero =>
    intro fuel hF cs x h
    obtain ⟨xs, n, hn, _⟩ := DataW.trod_struct Try.underlying25 h
    omega
  | succ F ih =>
    intro fuel hF cs x h
    obtain ⟨xs, n, hn, hx, hl, hxl, hf⟩ := DataW.trod_struct Try.underlying25 h
    have hl3 : cs.length = 3 := by rw [hl]; kernel_rfl
    match xs, hxl, cs, hl3 with
    | [y0, y1, y2], _, [v0, v1, v2], _ =>
      have g0 : DataW.trod enc Try.prog W base sp held n 3 [v0] = some y0 := hf 0 _ rfl
      have g1 : DataW.trod enc Try.prog W base sp held n 3 [v1] = some y1 := hf 1 _ rfl
      have g2 : DataW.trod enc Try.prog W base sp held n 23 [v2] = some y2 := hf 2 _ rfl
      obtain ⟨k, e0, _, w0⟩ := DataW.trod_int Try.underlying3 g0
      obtain ⟨m, e1, _, w1⟩ := DataW.trod_int Try.underlying3 g1
      obtain rfl : v0 = .int .i64 k := by simpa using e0
      obtain rfl : v1 = .int .i64 m := by simpa using e1
      rcases DataW.trod_slice Try.underlying23 g2 with ⟨e2, _⟩ | ⟨a, len, cap, elems, rest, n', hn', e2, _, _, hle, hm, hlen, hel, _, _⟩
      · obtain rfl : v2 = .slice none 0 0 := by simpa using e2
        exact ⟨.mk k m [], none, 0, rfl, .mk (fun _ => none) (fun _ => 0) (by simp) (by omega) (fun i x hx => by simp at hx) (fun i x hx => by simp at hx), w0, w1⟩
      · obtain rfl : v2 = .slice (some a) len cap := by simpa using e2
        have hc3 : Try.prog.cellsOf 25 = 3 := by kernel_rfl
        rw [hc3] at hel
        have each : ∀ i, i < len → ∃ q : Lv × Option Addr × Nat, W.cells? base (a.add (i * 3)) 3 = some [.int .i64 q.1.kind, .int .i64 q.1.num, .slice q.2.1 q.1.kids.length q.2.2] ∧ LvS W (fun _ => True) q.2.1 q.2.2 q.1 := by
          intro i hi
          have hq := hel i hi
          rw [List.getElem?_eq_getElem (by omega)] at hq
          obtain ⟨cs', h1, h2⟩ := Option.bind_eq_some_iff.1 hq
          obtain ⟨l, A, c, rfl, h3, _⟩ := ih n' (by omega) cs' _ h2
          exact ⟨(l, A, c), h1, h3⟩
        obtain ⟨q, hq⟩ := choose_lt each
        have hcell : ∀ i, i < len → ∀ j, j < 3 → W.cell? ((a.add (i * 3)).add j) = ([.int .i64 (q i).1.kind, .int .i64 (q i).1.num, .slice (q i).2.1 (q i).1.kids.length (q i).2.2] : List Value)[j]? := fun i hi j hj => (World.cells?_some (hq i hi).1).2.2 j hj
        have hget : ∀ (i : Nat) (x : Lv), ((List.range len).map fun i => (q i).1)[i]? = some x → i < len ∧ x = (q i).1 := by
          intro i x hx
          have hi : i < len := by
            rcases Nat.lt_or_ge i len with h | h
            · exact h
            · rw [List.getElem?_eq_none (by simpa using h)] at hx; cases hx
          rw [List.getElem?_map, List.getElem?_range hi] at hx
          exact ⟨hi, (Option.some.inj hx).symm⟩
        refine ⟨.mk k m ((List.range len).map fun i => (q i).1), some a, cap, by simp [Lv.kind, Lv.num, Lv.kids], .mk (fun i => (q i).2.1) (fun i => (q i).2.2) (by simpa using hle) (by simp only [maxLen] at hm; omega) (fun i x hx => ?_) (fun i x hx => ?_), w0, w1⟩
        · obtain ⟨hi, rfl⟩ := hget i x hx
          have hsp : a.spot = none := by
            have h0 := hcell 0 (by omega) 0 (by omega)
            simp only [Nat.zero_mul, Addr.add, if_true] at h0
            cases hs : a.spot with
            | none => rfl
            | some z => simp [World.cell?, hs] at h0; split at h0 <;> simp at h0
          obtain ⟨b, o, z⟩ := a
          obtain rfl : z = none := hsp
          have c0 := hcell i hi 0 (by omega)
          have c1 := hcell i hi 1 (by omega)
          have c2 := hcell i hi 2 (by omega)
          simp only [add_flat] at c0 c1 c2
          exact ⟨_, rfl, trivial, rfl, by rw [add_flat]; exact c0, by rw [add_flat]; exact c1, by rw [add_flat]; exact c2⟩
        · obtain ⟨hi, rfl⟩ := hget i x hx
          exact (hq i hi).2
set_option maxRecDepth 100000 in
theorem lv_in {H : Type} {enc : TypeId × Value → H} {W : World} {base : Nat} {sp : Nat → Bool} {held : Bool} {v : Value} {d : DataW H} {ps : List MemPlace} {r : Reach} {b0 : Nat} (hv : Value.okWide Try.prog W r b0 25 v) (h : DataW.Trod enc Try.prog W base sp held 25 v d ps) :
    ∃ (l : Lv) (A : Option Addr) (c : Nat), v = lvV A c l ∧ LvS W (fun _ => True) A c l ∧ (Lit.int .i64 l.kind).wf = true ∧ (Lit.int .i64 l.num).wf = true := by
  obtain ⟨cs, rfl, hcs⟩ := okWide_struct Try.underlying25 hv
  obtain ⟨fuel, hf⟩ := h
  obtain ⟨l, A, c, he, hl, hk, hn⟩ := lv_open fuel fuel (Nat.le_refl _) _ _ hf
  refine ⟨l, A, c, ?_, hl, hk, hn⟩
  unfold lvV
  congr 1
  apply Array.toList_inj.1
  simpa [Value.cells] using he
end Go.Proofs.Ytdboloabpjmgaaa

/-! LvsIn -/
namespace Go.Proofs.Ytdboloabpjmgaaa
open Go.RowKit Go.Proofs.YtdboloabpjmgaaaW.PrintWords Go.RegionInvYtdboloabpjmgaaa Go.ChangeShapes Go.WideShapes Go.Deep

set_option maxRecDepth 100000 in
theorem lvs_open {H : Type} {enc : TypeId × Value → H} {W : World} {base : Nat} {sp : Nat → Bool} {held : Bool} {fuel : Nat} {v2 : Value} {y2 : DataW H × List MemPlace} (g2 : DataW.trod enc Try.prog W base sp held fuel 23 [v2] = some y2) :
    ∃ (vs : List Lv) (A : Option Addr) (c : Nat), v2 = .slice A vs.length c ∧ LvS W (fun _ => True) A c (.mk 0 0 vs) := by
  rcases DataW.trod_slice Try.underlying23 g2 with ⟨e2, _⟩ | ⟨a, len, cap, elems, rest, n', hn', e2, _, _, hle, hm, hlen, hel, _, _⟩
  · obtain rfl : v2 = .slice none 0 0 := by simpa using e2
    exact ⟨[], none, 0, rfl, .mk (fun _ => none) (fun _ => 0) (by simp) (by omega) (fun i x hx => by simp at hx) (fun i x hx => by simp at hx)⟩
  · obtain rfl : v2 = .slice (some a) len cap := by simpa using e2
    have hc3 : Try.prog.cellsOf 25 = 3 := by kernel_rfl
    rw [hc3] at hel
    have each : ∀ i, i < len → ∃ q : Lv × Option Addr × Nat, W.cells? base (a.add (i * 3)) 3 = some [.int .i64 q.1.kind, .int .i64 q.1.num, .slice q.2.1 q.1.kids.length q.2.2] ∧ LvS W (fun _ => True) q.2.1 q.2.2 q.1 := by
      intro i hi
      have hq := hel i hi
      rw [List.getElem?_eq_getElem (by omega)] at hq
      obtain ⟨cs', h1, h2⟩ := Option.bind_eq_some_iff.1 hq
      obtain ⟨l, A, c, rfl, h3, _⟩ := lv_open n' n' (Nat.le_refl _) cs' _ h2
      exact ⟨(l, A, c), h1, h3⟩
    obtain ⟨q, hq⟩ := choose_lt each
    have hcell : ∀ i, i < len → ∀ j, j < 3 → W.cell? ((a.add (i * 3)).add j) = ([.int .i64 (q i).1.kind, .int .i64 (q i).1.num, .slice (q i).2.1 (q i).1.kids.length (q i).2.2] : List Value)[j]? := fun i hi j hj => (World.cells?_some (hq i hi).1).2.2 j hj
    have hget : ∀ (i : Nat) (x : Lv), ((List.range len).map fun i => (q i).1)[i]? = some x → i < len ∧ x = (q i).1 := by
      intro i x hx
      have hi : i < len := by
        rcases Nat.lt_or_ge i len with h | h
        · exact h
        · rw [List.getElem?_eq_none (by simpa using h)] at hx; cases hx
      rw [List.getElem?_map, List.getElem?_range hi] at hx
      exact ⟨hi, (Option.some.inj hx).symm⟩
    refine ⟨(List.range len).map fun i => (q i).1, some a, cap, by simp, .mk (fun i => (q i).2.1) (fun i => (q i).2.2) (by simpa using hle) (by simp only [maxLen] at hm; omega) (fun i x hx => ?_) (fun i x hx => ?_)⟩
    · obtain ⟨hi, rfl⟩ := hget i x hx
      have hsp : a.spot = none := by
        have h0 := hcell 0 (by omega) 0 (by omega)
        simp only [Nat.zero_mul, Addr.add, if_true] at h0
        cases hs : a.spot with
        | none => rfl
        | some z => simp [World.cell?, hs] at h0; split at h0 <;> simp at h0
      obtain ⟨b, o, z⟩ := a
      obtain rfl : z = none := hsp
      have c0 := hcell i hi 0 (by omega)
      have c1 := hcell i hi 1 (by omega)
      have c2 := hcell i hi 2 (by omega)
      simp only [add_flat] at c0 c1 c2
      exact ⟨_, rfl, trivial, rfl, by rw [add_flat]; exact c0, by rw [add_flat]; exact c1, by rw [add_flat]; exact c2⟩
    · obtain ⟨hi, rfl⟩ := hget i x hx
      exact (hq i hi).2
set_option maxRecDepth 100000 in
theorem lvs_in {H : Type} {enc : TypeId × Value → H} {W : World} {base : Nat} {sp : Nat → Bool} {held : Bool} {v : Value} {d : DataW H} {ps : List MemPlace} {r : Reach} {b0 : Nat} (hv : Value.okWide Try.prog W r b0 23 v) (h : DataW.Trod enc Try.prog W base sp held 23 v d ps) :
    ∃ (vs : List Lv) (A : Option Addr) (c n : Nat), v = .slice A n c ∧ n = vs.length ∧ LvS W (fun _ => True) A c (.mk 0 0 vs) := by
  obtain ⟨a, len, cap, rfl⟩ := okWide_slice Try.underlying23 hv
  obtain ⟨fuel, hf⟩ := h
  obtain ⟨vs, A, c, he, hl⟩ := lvs_open (v2 := .slice a len cap) hf
  exact ⟨vs, A, c, _, he, rfl, hl⟩
end Go.Proofs.Ytdboloabpjmgaaa

/-! TmInT -/
namespace Go.Proofs.Ytdboloabpjmgaaa
open Go.RowKit Go.Proofs.YtdboloabpjmgaaaW.PrintWords Go.RegionInvYtdboloabpjmgaaa Go.ChangeShapes Go.WideShapes Go.Deep

section
variable {H : Type} {enc : TypeId × Value → H} {W : World} {base : Nat} {sp : Nat → Bool} {held : Bool}
def Sized (t : TypeId) (d : DataW H) : Prop := (DataW.weights Try.prog t d).all (· ≤ reachBytes) = true
theorem all_at {t : TypeId} : ∀ {l : List (DataW H)}, (DataW.weightsAll Try.prog t l).all (· ≤ reachBytes) = true → ∀ (i : Nat) (d : DataW H), l[i]? = some d → Sized t d
  | [], _, i, d, h => by simp at h
  | x :: r, hw, i, d, h => by
    rw [DataW.weightsAll, List.all_append, Bool.and_eq_true] at hw
    cases i with
    | zero => simp at h; subst h; exact hw.1
    | succ j => exact all_at hw.2 j d (by simpa using h)
theorem each_at : ∀ {ts : List TypeId} {l : List (DataW H)}, (DataW.weightsEach Try.prog ts l).all (· ≤ reachBytes) = true → ∀ (i : Nat) (t : TypeId) (d : DataW H), ts[i]? = some t → l[i]? = some d → Sized t d
  | [], l, _, i, t, d, h, _ => by simp at h
  | _ :: _, [], _, i, t, d, _, h => by simp at h
  | s :: ts, x :: r, hw, i, t, d, ht, hd => by
    rw [DataW.weightsEach, List.all_append, Bool.and_eq_true] at hw
    cases i with
    | zero => simp at ht hd; subst ht; subst hd; exact hw.1
    | succ j => exact each_at hw.2 j t d (by simpa using ht) (by simpa using hd)
theorem sized_agg {t : TypeId} {fs : Array Field} {ps : List (DataW H)} (hu : Try.prog.underlying t = some (.struct fs)) (h : Sized t (.agg ps)) : ∀ (i : Nat) (f : Field) (d : DataW H), fs[i]? = some f → ps[i]? = some d → Sized f.type d := by
  unfold Sized at h
  rw [DataW.weights, hu] at h
  intro i f d hf hd
  exact each_at h i f.type d (by simp [hf]) hd
theorem sized_slices {t e : TypeId} {es rs : List (DataW H)} (hu : Try.prog.underlying t = some (.slice e)) (h : Sized t (.slice es rs)) : (es.length + rs.length) * Try.prog.bytesOf e ≤ 140737488351232 ∧ ∀ (i : Nat) (d : DataW H), es[i]? = some d → Sized e d := by
  unfold Sized at h
  rw [DataW.weights, hu] at h
  simp only [List.all_cons, List.all_append, Bool.and_eq_true, decide_eq_true_eq] at h
  exact ⟨h.1, fun i d hd => all_at h.2.1 i d hd⟩
theorem sized_str {t : TypeId} {s : List UInt8} (h : Sized (H := H) t (.lit (.string s))) : s.length ≤ 140737488351232 := by
  unfold Sized at h
  rw [DataW.weights] at h
  have h' : s.length ≤ reachBytes := by simpa using h
  exact h'
theorem lvs_len {fuel : Nat} {v : Value} {y : DataW H × List MemPlace} (g : DataW.trod enc Try.prog W base sp held fuel 23 [v] = some y) (hw : Sized 23 y.1) {A : Option Addr} {n c : Nat} (he : v = .slice A n c) : n * 40 ≤ 140737488355328 := by
  subst he
  rcases DataW.trod_slice Try.underlying23 g with ⟨e2, _⟩ | ⟨a, len, cap, elems, rest, n', hn', e2, hy, _, hle, hm, hlen, hel, _, _⟩
  · have : n = 0 := by simp at e2; exact e2.2.1
    omega
  · have : n = len := by simp at e2; exact e2.2.1
    subst this
    subst hy
    have h := (sized_slices Try.underlying23 hw).1
    rw [show Try.prog.bytesOf 25 = 40 by kernel_rfl] at h
    simp only [List.length_map] at h
    have := Nat.le_mul_of_pos_right elems.length (show 0 < 40 by decide)
    have h2 : n * 40 ≤ (elems.length + rest.length) * 40 := Nat.mul_le_mul_right _ (by omega)
    omega
theorem plain_addr {a : Addr} {v : Value} (h : W.cell? a = some v) : a.spot = none := by
  cases hs : a.spot with
  | none => rfl
  | some z => simp [World.cell?, hs] at h; split at h <;> simp at h
theorem int_range {n : Int} (h : (Lit.int .i64 n).wf = true) : -9223372036854775808 ≤ n ∧ n ≤ 9223372036854775807 := by simpa [Lit.wf, IntKind.min, IntKind.max, IntKind.signed, IntKind.bits] using h
set_option maxRecDepth 100000 in
set_option maxHeartbeats 4000000 in
theorem tm_open (F : Nat) : ∀ (fuel : Nat), fuel ≤ F → ∀ (cs : List Value) (x : DataW H × List MemPlace), DataW.trod enc Try.prog W base sp held fuel 28 cs = some x → Sized 28 x.1 →
    ∃ (t : Tm) (p : Pl), cs = tmC p t ∧ TmS W (fun _ => True) p t := by
  induction F with
  | zero =>
    intro fuel hF cs x h
    obtain ⟨xs, n, hn, _⟩ := DataW.trod_struct Try.underlying28 h
    omega
  | succ F ih =>
    intro fuel hF cs x h hw
    obtain ⟨xs, n, hn, hx, hl, hxl, hf⟩ := DataW.trod_struct Try.underlying28 h
    have hl8 : cs.length = 8 := by rw [hl]; kernel_rfl
    match xs, hxl, cs, hl8 with
    | [y0, y1, y2, y3, y4, y5], _, [v0, v1, v2, v3, v4, v5, v6, v7], _ =>
      subst hx
      have g0 : DataW.trod enc Try.prog W base sp held n 3 [v0] = some y0 := hf 0 _ rfl
      have g1 : DataW.trod enc Try.prog W base sp held n 3 [v1] = some y1 := hf 1 _ rfl
      have g2 : DataW.trod enc Try.prog W base sp held n 9 [v2] = some y2 := hf 2 _ rfl
      have g3 : DataW.trod enc Try.prog W base sp held n 25 [v3, v4, v5] = some y3 := hf 3 _ rfl
      have g4 : DataW.trod enc Try.prog W base sp held n 23 [v6] = some y4 := hf 4 _ rfl
      have g5 : DataW.trod enc Try.prog W base sp held n 26 [v7] = some y5 := hf 5 _ rfl
      have z2 : Sized 9 y2.1 := sized_agg Try.underlying28 hw 2 _ _ rfl rfl
      have z4 : Sized 23 y4.1 := sized_agg Try.underlying28 hw 4 _ _ rfl rfl
      have z5 : Sized 26 y5.1 := sized_agg Try.underlying28 hw 5 _ _ rfl rfl
      obtain ⟨k, e0, _, w0⟩ := DataW.trod_int Try.underlying3 g0
      obtain ⟨m, e1, _, w1⟩ := DataW.trod_int Try.underlying3 g1
      obtain ⟨s, e2, e2', _⟩ := DataW.trod_string Try.underlying9 g2
      obtain rfl : v0 = .int .i64 k := by simpa using e0
      obtain rfl : v1 = .int .i64 m := by simpa using e1
      obtain rfl : v2 = .string s := by simpa using e2
      have hs : s.size ≤ 140737488355328 := by
        rw [e2'] at z2
        have := sized_str z2
        simp at this
        have e : s.size = s.data.size := rfl
        omega
      obtain ⟨l, A, c, e3, hlv, _, _⟩ := lv_open n n (Nat.le_refl _) _ _ g3
      obtain ⟨ls, B, d, rfl, hls⟩ := lvs_open g4
      have hll := lvs_len g4 z4 rfl
      obtain ⟨rfl, rfl, rfl⟩ : v3 = .int .i64 l.kind ∧ v4 = .int .i64 l.num ∧ v5 = .slice A l.kids.length c := by simpa using e3
      have hfit : Fit m s ls := ⟨int_range w1, hs, hll⟩
      rcases DataW.trod_slice Try.underlying26 g5 with ⟨e5, _⟩ | ⟨a, len, cap, elems, rest, n', hn', e5, hy, _, hle, hm, hlen, hel, _, _⟩
      · obtain rfl : v7 = .slice none 0 0 := by simpa using e5
        exact ⟨.mk k m s l ls [], ⟨A, c, B, d, none, 0⟩, rfl, .mk (fun _ => default) hlv hls (by simp) (by simp) hfit (fun i x hx => by simp at hx) (fun i x hx => by simp at hx)⟩
      · obtain rfl : v7 = .slice (some a) len cap := by simpa using e5
        subst hy
        have hz := (sized_slices Try.underlying26 z5).2
        have hc8 : Try.prog.cellsOf 28 = 8 := by kernel_rfl
        rw [hc8] at hel
        have each : ∀ i, i < len → ∃ q : Tm × Pl, W.cells? base (a.add (i * 8)) 8 = some (tmC q.2 q.1) ∧ TmS W (fun _ => True) q.2 q.1 := by
          intro i hi
          have hq := hel i hi
          rw [List.getElem?_eq_getElem (by omega)] at hq
          obtain ⟨cs', h1, h2⟩ := Option.bind_eq_some_iff.1 hq
          obtain ⟨t, p, rfl, h3⟩ := ih n' (by omega) cs' _ h2 (hz i _ (by rw [List.getElem?_map, List.getElem?_eq_getElem (by omega)]; rfl))
          exact ⟨(t, p), h1, h3⟩
        obtain ⟨q, hq⟩ := choose_lt each
        have hcell : ∀ i, i < len → ∀ j, j < 8 → W.cell? ((a.add (i * 8)).add j) = (tmC (q i).2 (q i).1)[j]? := fun i hi j hj => (World.cells?_some (hq i hi).1).2.2 j hj
        have hget : ∀ (i : Nat) (x : Tm), ((List.range len).map fun i => (q i).1)[i]? = some x → i < len ∧ x = (q i).1 := by
          intro i x hx
          have hi : i < len := by
            rcases Nat.lt_or_ge i len with h | h
            · exact h
            · rw [List.getElem?_eq_none (by simpa using h)] at hx; cases hx
          rw [List.getElem?_map, List.getElem?_range hi] at hx
          exact ⟨hi, (Option.some.inj hx).symm⟩
        refine ⟨.mk k m s l ls ((List.range len).map fun i => (q i).1), ⟨A, c, B, d, some a, cap⟩, by simp [tmC, Tm.kind, Tm.num, Tm.name, Tm.lv, Tm.ls, Tm.kids], .mk (fun i => (q i).2) hlv hls (by simpa using hle) (by simp only [maxLen] at hm; exact hm) hfit (fun i x hx => ?_) (fun i x hx => ?_)⟩
        · obtain ⟨hi, rfl⟩ := hget i x hx
          have h0 := hcell 0 (by omega) 0 (by omega)
          simp only [Nat.zero_mul, Addr.add, if_true] at h0
          have hsp : a.spot = none := plain_addr (h0.trans (by rfl))
          obtain ⟨b, o, z⟩ := a
          obtain rfl : z = none := hsp
          refine ⟨b, o, rfl, trivial, fun j v hv => ?_⟩
          have hj : j < 8 := by
            rcases Nat.lt_or_ge j 8 with h | h
            · exact h
            · rw [List.getElem?_eq_none (by rw [tmC_len]; exact h)] at hv; cases hv
          have c0 := hcell i hi j hj
          simp only [add_flat] at c0
          rw [c0]
          exact hv
        · obtain ⟨hi, rfl⟩ := hget i x hx
          exact (hq i hi).2
set_option maxRecDepth 100000 in
theorem tm_in {v : Value} {d : DataW H} {ps : List MemPlace} {r : Reach} {b0 : Nat} (hv : Value.okWide Try.prog W r b0 28 v) (h : DataW.Trod enc Try.prog W base sp held 28 v d ps) (hw : Sized 28 d) :
    ∃ (t : Tm) (p : Pl), v = tmV p t ∧ TmS W (fun _ => True) p t := by
  obtain ⟨cs, rfl, hcs⟩ := okWide_struct Try.underlying28 hv
  obtain ⟨fuel, hf⟩ := h
  obtain ⟨t, p, he, ht⟩ := tm_open fuel fuel (Nat.le_refl _) _ _ hf hw
  refine ⟨t, p, ?_, ht⟩
  unfold tmV
  congr 1
  apply Array.toList_inj.1
  simpa [Value.cells, tmC] using he

end
end Go.Proofs.Ytdboloabpjmgaaa
