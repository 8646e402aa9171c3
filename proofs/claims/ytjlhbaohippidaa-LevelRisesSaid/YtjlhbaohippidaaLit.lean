/-
  The walk of little.
-/
import Derived.Test.YtjlhbaohippidaaLvC
namespace Go.Proofs.Ytjlhbaohippidaa
open Go.RowKit Go.Proofs.YtjlhbaohippidaaW.PrintWords Go.RegionInvYtjlhbaohippidaa

mutual
def litP : Lv → Bool
  | .mk k n ks => (decide (k = 2) || decide (n ≤ 1048576)) && litKs ks
def litKs : List Lv → Bool
  | [] => true
  | x :: r => litP x && litKs r
end
theorem lit_mk (k n : Int) (ks : List Lv) : litP (.mk k n ks) = ((decide (k = 2) || decide (n ≤ 1048576)) && litKs ks) := by rw [litP]
theorem litKs_all (ks : List Lv) : litKs ks = ks.all litP := by
  induction ks with
  | nil => rw [litKs]; rfl
  | cons x r ih => rw [litKs, ih]; rfl
theorem lit_bad {k n : Int} {ks : List Lv} (h1 : k ≠ 2) (h2 : 1048576 < n) : litP (.mk k n ks) = false := by
  rw [lit_mk, decide_eq_false h1, decide_eq_false (by omega)]; rfl
theorem lit_ok {k n : Int} {ks : List Lv} (h : k = 2 ∨ n ≤ 1048576) : litP (.mk k n ks) = ks.all litP := by
  rw [lit_mk, litKs_all]
  rcases h with h | h
  · rw [decide_eq_true h]; rfl
  · rw [decide_eq_true h, Bool.or_true]; rfl
theorem all_step {ks : List Lv} {j : Nat} {x : Lv} (h : (ks.take j).all litP = true) (hx : ks[j]? = some x) (hl : litP x = true) : (ks.take (j + 1)).all litP = true := by
  rw [List.take_add_one, hx, List.all_append, h]; simpa using hl
theorem all_not {ks : List Lv} {j : Nat} {x : Lv} (hx : ks[j]? = some x) (hl : litP x = false) : ks.all litP = false := by
  rw [List.all_eq_false]
  exact ⟨x, List.mem_of_getElem? hx, by rw [hl]; decide⟩
set_option maxHeartbeats 4000000 in
theorem little_calls (N : Nat) : ∀ (l : Lv), SizeOf.sizeOf l < N → ∀ (A : Option Addr) (c : Nat) (w : World), LvIn w w.heap.size A c l →
    Calls Try.prog 19 #[lvV A c l] w fun e w' => e = .returned (.bool (litP l)) ∧ Below w.heap.size w w' := by
  induction N with
  | zero => intro l h; omega
  | succ N ih =>
    rintro ⟨lk, ln, ks⟩ hN A c w hin
    have IH := Aside0.mk ih
    have HIN := Aside0.mk hin
    have hlen := hin.len
    clear ih hin
    unfold lvV
    simp only [Lv.kind, Lv.num, Lv.kids] at hlen ⊢
    obtain ⟨m, hm⟩ : ∃ m, m = ks.length := ⟨_, rfl⟩
    rw [← hm] at hlen ⊢
    have HM := Aside0.mk hm
    clear hm
    have HB0 := Aside0.mk (show Below w.heap.size w (w.alloc (.cells #[.int .i64 lk, .int .i64 ln, .slice A m c] 24 (0, 0))) from below_alloc (Below.refl _ _) _)
    go_enter Try.func19, Try.ntmps19
    by_cases hbad : lk ≠ 2 ∧ 1048576 < ln
    · have HE := Aside0.mk (lit_bad (ks := ks) hbad.1 hbad.2)
      have h1 : (lk != 2) = true := by simp [hbad.1]
      have h2 := hbad.2
      clear hbad
      go_wp2
      go_ret
      exact ⟨by rw [HE.out]; rfl, HB0.out⟩
    · have HE := Aside0.mk (lit_ok (k := lk) (n := ln) (ks := ks) (by omega))
      go_upto_region 1 with (fail)
      go_cut [12] (fun v wr => v = .bool false ∧ wr = w.alloc (.cells #[.int .i64 lk, .int .i64 ln, .slice A m c] 24 (0, 0)))
      case first =>
        by_cases h2 : lk = 2
        · have h2' : (lk != 2) = false := by simp [h2]
          clear hbad
          go_wp2
          go_meet
          case rel => exact ⟨by first | rfl | (rw [h4]), by first | rfl | (rw [h2])⟩
        · have h2' : (lk != 2) = true := by simp [h2]
          have h3 : ln ≤ 1048576 := by omega
          have h4 : decide (1048576 < ln) = false := decide_eq_false (by omega)
          clear hbad
          go_wp2
          go_meet
          case rel => exact ⟨by first | rfl | (rw [h4]), by first | rfl | (rw [h2])⟩
      case rest =>
        obtain ⟨rfl, rfl⟩ := hcut
        clear hbad
        go_wp2
        go_loopw [16] (fun i wr => ∃ (j : Nat), i = .int .i64 j ∧ j ≤ m ∧ Aside0 ((ks.take j).all litP = true) ∧ Aside0 (Below w.heap.size w wr)) (fun i _ => m - (intOf i).toNat)
        case atStart => exact ⟨0, rfl, Nat.zero_le _, ⟨by simp⟩, HB0⟩
        case round =>
          obtain ⟨j, rfl, hj, HK, HB⟩ := hrel
          by_cases hlt : j < m
          · have hlt2 : j < ks.length := by rw [← HM.out]; exact hlt
            obtain ⟨x, hx⟩ : ∃ x, ks[j]? = some x := ⟨_, List.getElem?_eq_getElem hlt2⟩
            obtain ⟨A', c', hcs, hxin⟩ := (LvIn.stay HIN.out HB.out).kid j x hx
            obtain ⟨ad, rfl, hc1, hc2, hc3⟩ := hcs.facts
            have HX := Aside0.mk hx
            have HXIN := Aside0.mk hxin
            clear hcs hx hxin hlt2
            cases hl : litP x with
            | true =>
              have HK' := Aside0.mk (all_step HK.out HX.out hl)
              have HL := Aside0.mk hl
              clear hl
              go_wp2_with (go_at_call 19; go_must (refine (IH.out x (Nat.lt_of_lt_of_le (kid_small HX.out) (Nat.le_of_lt_succ hN)) A' c' _ (LvS.all (HXIN.out.later ((Below.refl _ _).alloc (Nat.le_refl _) _)))).mono ?_; rintro e w2 ⟨rfl, hb⟩; rw [HL.out]; have HB2 := Aside0.mk (below_then (below_alloc HB.out _) (below_alloc HB.out _).size hb); clear hb))
              go_roundw
              case rel => exact ⟨j + 1, by go_num, by omega, HK', HB2⟩
              case measure => (simp [intOf]; try omega)
            | false =>
              have HF := Aside0.mk (all_not HX.out hl)
              have HL := Aside0.mk hl
              clear hl
              go_wp2_with (go_at_call 19; go_must (refine (IH.out x (Nat.lt_of_lt_of_le (kid_small HX.out) (Nat.le_of_lt_succ hN)) A' c' _ (LvS.all (HXIN.out.later ((Below.refl _ _).alloc (Nat.le_refl _) _)))).mono ?_; rintro e w2 ⟨rfl, hb⟩; rw [HL.out]; have HB2 := Aside0.mk (below_then (below_alloc HB.out _) (below_alloc HB.out _).size hb); clear hb))
              go_ret
              exact ⟨by rw [HE.out, HF.out]; rfl, HB2.out⟩
          · obtain rfl : j = m := by omega
            have hlt' : decide ((j : Int) < j) = false := by simp
            have HF := Aside0.mk (show ks.all litP = true by have := HK.out; rwa [List.take_of_length_le (by rw [← HM.out]; exact Nat.le_refl _)] at this)
            go_wp2
            go_ret
            exact ⟨by rw [HE.out, HF.out]; rfl, HB.out⟩
end Go.Proofs.Ytjlhbaohippidaa
