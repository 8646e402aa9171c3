/-
  The walk of walk over sound's visit; sound.
-/
import Derived.Test.YtjlhbaohippidaaLvS
namespace Go.Proofs.Ytjlhbaohippidaa
open Go.RowKit Go.Proofs.YtjlhbaohippidaaW.PrintWords Go.RegionInvYtjlhbaohippidaa

theorem kid_small {k n : Int} {ks : List Lv} {i : Nat} {x : Lv} (h : ks[i]? = some x) : SizeOf.sizeOf x < SizeOf.sizeOf (Lv.mk k n ks) := by
  have := List.sizeOf_lt_of_mem (List.mem_of_getElem? h)
  simp only [Lv.mk.sizeOf_spec]
  omega
theorem drop_kid {ks : List Lv} {i : Nat} {x : Lv} (h : ks[i]? = some x) : ks.drop i = x :: ks.drop (i + 1) := by
  obtain ⟨hi, e⟩ := List.getElem?_eq_some_iff.1 h
  rw [List.drop_eq_getElem_cons hi, e]
theorem chg_below {w w' : World} {g B : Nat} (h : Chg (fun k => k = g) w w') (hB : B ≤ g) (hz : B ≤ w.heap.size) : Below B w w' := h.below (fun _ e => e ▸ hB) hz

theorem chg_cell {w w' : World} {g : Nat} (h : Chg (fun k => k = g) w w') {p : Addr} {v : Value} (hc : w.cell? p = some v) (hne : p.block ≠ g) : w'.cell? p = some v := by
  have hb := h.block p.block (World.block_lt_of_cell? w p hc) hne
  simpa [World.cell?, hb] using hc
theorem box_cell (w : World) (cs : Array Value) (t : TypeId) (i : Nat) (v : Value) (h : cs[i]? = some v) : (w.alloc (.cells cs t (0, 0))).cell? ⟨w.heap.size, i, none⟩ = some v := by
  rw [cell_of_row _ _ _ cs t (0, 0) (heap_alloc_new w _)]; exact h
theorem add_flat (b o j : Nat) : (⟨b, o, none⟩ : Addr).add j = ⟨b, o + j, none⟩ := by unfold Addr.add; split <;> simp_all
theorem CellsAt.facts {w : World} {S : Nat → Prop} {A : Option Addr} {i : Nat} {a b : Int} {A' : Option Addr} {n' c' : Nat} (h : CellsAt w S A i a b A' n' c') : ∃ ad, A = some ad ∧ w.cell? (ad.add (i * 3)) = some (.int .i64 a) ∧
    w.cell? ⟨(ad.add (i * 3)).block, (ad.add (i * 3)).off + 1, none⟩ = some (.int .i64 b) ∧ w.cell? ⟨(ad.add (i * 3)).block, (ad.add (i * 3)).off + 2, none⟩ = some (.slice A' n' c') := by
  obtain ⟨ad, e, _, hs, h1, h2, h3⟩ := h
  obtain ⟨b, o, sp⟩ := ad
  obtain rfl : sp = none := hs
  refine ⟨_, e, h1, ?_, ?_⟩
  · rw [← h2, add_flat, add_flat]; rfl
  · rw [← h3, add_flat, add_flat]; rfl
abbrev soundF (g : Nat) : Value := .func (.func 50) #[] #[.pointer (some ⟨g, 0, none⟩)]

theorem sound1_at (A : Option Addr) (c : Nat) (k n : Int) (ks : List Lv) (m : Nat) (d s : Int) (g : Nat) (w : World) (hm : m = ks.length) (hc : m ≤ 9223372036854775807) (hg : NumAt w g s) (hs0 : 0 ≤ s) (hs1 : s ≤ 1000) (hd0 : 0 ≤ d) (hd1 : d ≤ 257) :
    Calls Try.prog 50 #[.agg #[.int .i64 k, .int .i64 n, .slice A m c], .int .i64 d, .pointer (some ⟨g, 0, none⟩)] w (VisitPost w g (sndF (.mk k n ks) d s)) := by
  subst hm
  exact sound1_calls A c (.mk k n ks) d s g w hc hg hs0 hs1 hd0 hd1

set_option maxHeartbeats 4000000 in
theorem walk_sound (N : Nat) : ∀ (l : Lv), SizeOf.sizeOf l < N → ∀ (A : Option Addr) (c : Nat) (d s : Int) (g B : Nat) (w : World), LvIn w B A c l → NumAt w g s → B ≤ g → 0 ≤ s → s ≤ 1000 → 0 ≤ d → d ≤ 257 →
    Calls Try.prog 27 #[lvV A c l, .int .i64 d, soundF g] w (VisitPost w g (walkP sndF l d s)) := by
  induction N with
  | zero => intro l h; omega
  | succ N ih =>
    rintro ⟨lk, ln, ks⟩ hN A c d s g B w hin hg hBg hs0 hs1 hd0 hd1
    have IH := Aside0.mk ih
    have HIN := Aside0.mk hin
    have HG := Aside0.mk hg
    have hlen := hin.len
    simp only [Lv.kids] at hlen
    have hl9 : ks.length ≤ 9223372036854775807 := by omega
    have hglt := blk_lt hg
    clear ih hin hg hlen
    unfold soundF lvV
    simp only [Lv.kind, Lv.num, Lv.kids]
    obtain ⟨m, hm⟩ : ∃ m, m = ks.length := ⟨_, rfl⟩
    rw [← hm] at hl9 ⊢
    have HM := Aside0.mk hm
    clear hm
    go_enter Try.func27, Try.ntmps27
    by_cases h1 : (sndF (.mk lk ln ks) d s).1 = 0
    · have HE := Aside0.mk (walkP_go h1)
      have hsm := sndF_small' hs0 h1
      have HV := Aside0.mk hsm.2.2.2
      rw [HV.out] at HE
      simp only [Lv.kids] at HE
      have hs3 := hsm.1
      have hd3 := hsm.2.1
      clear h1 hsm
      go_wp2_with (go_at_call 50; go_must (refine (sound1_at A c lk ln ks m d s g _ HM.out hl9 (HG.out.alloc _) hs0 hs1 hd0 hd1).mono ?_; rintro e w1 ⟨rfl, hg1, hc1⟩; rw [HV.out] at hg1 ⊢; have HG1 := Aside0.mk hg1; have hbox := chg_cell hc1 (box_cell w #[.int .i64 lk, .int .i64 ln, .slice A m c] 24 2 _ rfl) (Nat.ne_of_gt hglt); have HC1 := Aside0.mk (chg_trans (chg_alloc _ _ _) hc1); clear hg1 hc1))
      go_loopw [21] (fun i wr => ∃ (k : Nat) (s' : Int), i = .int .i64 k ∧ k ≤ m ∧ 0 ≤ s' ∧ s' ≤ 1000 ∧ Aside0 (walkKs sndF (ks.drop k) (d + 1) s' = walkP sndF (.mk lk ln ks) d s) ∧ Aside0 (NumAt wr g s') ∧ Aside0 (Chg (fun k => k = g) w wr)) (fun i _ => m - (intOf i).toNat)
      case atStart => exact ⟨0, s + 1, rfl, Nat.zero_le _, by omega, by omega, ⟨HE.out.symm⟩, HG1, HC1⟩
      case round =>
        clear HE HV HG1 HC1 hbox
        obtain ⟨k, s', rfl, hk, hs4, hs5, HE, HG1, HC1⟩ := hrel
        have HIN2 := Aside0.mk (LvIn.stay HIN.out (chg_below HC1.out hBg (Nat.le_of_lt (Nat.lt_of_le_of_lt hBg hglt))))
        by_cases hlt : k < m
        · have hlt2 : k < ks.length := by rw [← HM.out]; exact hlt
          obtain ⟨x, hx⟩ : ∃ x, ks[k]? = some x := ⟨_, List.getElem?_eq_getElem hlt2⟩
          obtain ⟨A', c', hcs, hin⟩ := HIN2.out.kid k x hx
          obtain ⟨ad, rfl, hc1, hc2, hc3⟩ := hcs.facts
          clear hcs
          have HX := Aside0.mk hx
          have HXIN := Aside0.mk hin
          clear hx hin hlt2
          have hglt2 := blk_lt HG1.out
          by_cases h2 : (walkP sndF x (d + 1) s').1 = 0
          · have hsm := walkP_small sndF_small x (d + 1) s' hs4 h2
            have HK := Aside0.mk ((walkKs_go (r := ks.drop (k + 1)) h2).symm.trans ((congrArg (fun l => walkKs sndF l (d + 1) s') (drop_kid HX.out)).symm.trans HE.out))
            obtain ⟨e2, s2, hes⟩ : ∃ a b, walkP sndF x (d + 1) s' = (a, b) := ⟨_, _, rfl⟩
            have HV := Aside0.mk hes
            rw [hes] at hsm h2 HK
            simp only at hsm h2 HK
            subst h2
            have hs6 := hsm.1
            have hs7 := hsm.2
            clear hes hsm
            go_wp2_with (go_at_call 27; go_must (refine (IH.out x (Nat.lt_of_lt_of_le (kid_small HX.out) (Nat.le_of_lt_succ hN)) A' c' (d + 1) s' g B _ (LvIn.stay HXIN.out ((Below.refl _ _).alloc (Nat.le_of_lt (Nat.lt_of_le_of_lt hBg hglt2)) _)) (HG1.out.alloc _) hBg hs4 hs5 (by omega) (by omega)).mono ?_; rintro e w2 ⟨rfl, hg1, hc1⟩; rw [HV.out] at hg1 ⊢; have HG2 := Aside0.mk hg1; have HC2 := Aside0.mk (chg_trans HC1.out (chg_trans (chg_alloc _ _ _) hc1)); clear hg1 hc1))
            go_roundw
            case rel => exact ⟨k + 1, s2, by go_num, by omega, hs6, hs7, HK, HG2, HC2⟩
            case measure => (simp [intOf]; try omega)
          · have HK := Aside0.mk ((walkKs_stop (r := ks.drop (k + 1)) h2).symm.trans ((congrArg (fun l => walkKs sndF l (d + 1) s') (drop_kid HX.out)).symm.trans HE.out))
            obtain ⟨e2, s2, hes⟩ : ∃ a b, walkP sndF x (d + 1) s' = (a, b) := ⟨_, _, rfl⟩
            have HV := Aside0.mk hes
            rw [hes] at h2
            have h2' : (e2 != 0) = true := by simpa using h2
            clear hes h2
            go_wp2_with (go_at_call 27; go_must (refine (IH.out x (Nat.lt_of_lt_of_le (kid_small HX.out) (Nat.le_of_lt_succ hN)) A' c' (d + 1) s' g B _ (LvIn.stay HXIN.out ((Below.refl _ _).alloc (Nat.le_of_lt (Nat.lt_of_le_of_lt hBg hglt2)) _)) (HG1.out.alloc _) hBg hs4 hs5 (by omega) (by omega)).mono ?_; rintro e w2 ⟨rfl, hg1, hc1⟩; rw [HV.out] at hg1 ⊢; have HG2 := Aside0.mk hg1; have HC2 := Aside0.mk (chg_trans HC1.out (chg_trans (chg_alloc _ _ _) hc1)); clear hg1 hc1))
            go_ret
            rw [← HK.out, HV.out]
            exact ⟨rfl, HG2.out, HC2.out⟩
        · obtain rfl : k = m := by omega
          have hlt' : decide ((k : Int) < k) = false := by simp
          have HW := Aside0.mk (show walkP sndF (.mk lk ln ks) d s = (0, s') by rw [← HE.out, List.drop_of_length_le (by rw [← HM.out]; exact Nat.le_refl _), walkKs])
          go_wp2
          go_ret
          rw [HW.out]
          exact ⟨rfl, HG1.out, HC1.out⟩
    · have HE := Aside0.mk (walkP_stop h1)
      have h1' : ((sndF (.mk lk ln ks) d s).1 != 0) = true := by simp [h1]
      obtain ⟨e1, s1, hes⟩ : ∃ a b, sndF (.mk lk ln ks) d s = (a, b) := ⟨_, _, rfl⟩
      have HV := Aside0.mk hes
      rw [hes] at h1'
      simp only at h1'
      clear h1 hes
      go_wp2_with (go_at_call 50; go_must (refine (sound1_at A c lk ln ks m d s g _ HM.out hl9 (HG.out.alloc _) hs0 hs1 hd0 hd1).mono ?_; rintro e w1 ⟨rfl, hg1, hc1⟩; rw [HV.out] at hg1 ⊢; have HG1 := Aside0.mk hg1; have HC1 := Aside0.mk (chg_trans (chg_alloc _ _ _) hc1); clear hg1 hc1))
      go_ret
      rw [HE.out, HV.out]
      exact ⟨rfl, HG1.out, HC1.out⟩
theorem two_below {w w' : World} {o o' : Obj} (h : Chg (fun k => k = w.heap.size + 1) ((w.alloc o).alloc o') w') : Below w.heap.size w w' :=
  Chg.trans_below (below_alloc (below_alloc (Below.refl _ _) _) _) h (fun _ e => by omega) (by simp; omega)
/-- Is a level sound? -/
def soundB (l : Lv) : Bool := (walkP sndF l 1 0).1 == 0

set_option maxHeartbeats 2000000 in
theorem sound_calls (A : Option Addr) (c : Nat) (l : Lv) (w : World) (hin : LvIn w w.heap.size A c l) :
    Calls Try.prog 33 #[lvV A c l] w fun e w' => e = .returned (.bool (soundB l)) ∧ Below w.heap.size w w' := by
  have HIN := Aside0.mk hin
  clear hin
  unfold lvV
  go_enter Try.func33, Try.ntmps33
  have hnew : NumAt ((w.alloc (.cells #[.int .i64 l.kind, .int .i64 l.num, .slice A l.kids.length c] 24 (0, 0))).alloc (.cells #[.int .i64 0] 3 (0, 0))) (w.heap.size + 1) 0 := by
    have := blk_new (w.alloc (.cells #[.int .i64 l.kind, .int .i64 l.num, .slice A l.kids.length c] 24 (0, 0))) (.cells #[.int .i64 0] 3 (0, 0))
    simpa [NumAt] using this
  have HNEW := Aside0.mk hnew
  clear hnew
  go_wp2_with (go_at_call 27; go_must (refine (walk_sound _ l (Nat.lt_succ_self _) A c 1 0 (w.heap.size + 1) w.heap.size _ (LvIn.stay HIN.out (below_alloc (below_alloc (Below.refl _ _) _) _)) HNEW.out (Nat.le_succ _) (by decide) (by decide) (by decide) (by decide)).mono ?_; rintro e w1 ⟨rfl, -, hc⟩; have HB := Aside0.mk (two_below hc); clear hc))
  go_ret
  exact ⟨rfl, HB.out⟩
end Go.Proofs.Ytjlhbaohippidaa
