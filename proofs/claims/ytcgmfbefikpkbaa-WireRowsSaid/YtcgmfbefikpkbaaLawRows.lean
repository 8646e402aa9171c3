/-
  WireRows: rows of bytes come back, to the last byte; one byte less is short: the walk.
-/
import Derived.Test.YtcgmfbefikpkbaaWireLS
namespace Go.Proofs.Ytcgmfbefikpkbaa
open Go.RowKit Go.Proofs.YtcgmfbefikpkbaaW.PrintWords Go.RegionInvYtcgmfbefikpkbaa

theorem Short.take {rows : List (List Int)} {k b : Nat} (h : ∀ r ∈ rows, r.length ≤ b) (hb : b ≤ 18446744073709551615) : (putRows (rows.take k)).length ≤ rows.length * (b + 10) := by
  have h1 := putRows_len (rows := rows.take k) (fun r hr => h r (List.mem_of_mem_take hr)) hb
  have h2 : (rows.take k).length ≤ rows.length := by simp; omega
  exact Nat.le_trans h1 (Nat.mul_le_mul_right _ h2)
theorem not_below {n b : Nat} (h : ¬ n < b) : b ≤ n := Nat.le_of_not_lt h

set_option maxRecDepth 100000 in
set_option maxHeartbeats 4000000 in
theorem rows_law (A : Option Addr) (m c : Nat) (rows : List (List Int)) (w : World) (hr : ReadsRows w A m rows) (hB : ∀ r ∈ rows, Bytes r) :
    Calls Try.prog 9 #[.slice A m c] w fun e w' => e = .returned (.bool true) ∧ Below w.heap.size w w' := by
  have HR := Aside0.mk hr
  have HM := Aside0.mk hr.1
  have hm1 := hr.2.1
  have HBY := Aside0.mk hB
  clear hr hB
  go_enter Try.func9, Try.ntmps9
  go_upto_block 0 with (fail)
  go_cut [] (fun w2 => m ≤ 40 ∧ Aside0 (∀ r ∈ rows, r.length ≤ 300) ∧ w2 = w)
  case first =>
    go_wp2
    go_loop [15] (fun i => ∃ k : Nat, i = .int .i64 k ∧ k ≤ m ∧ k ≤ 40 ∧ Aside0 (∀ j r, j < k → rows[j]? = some r → r.length ≤ 300)) (fun i => m - (intOf i).toNat)
    case atStart => exact ⟨0, rfl, Nat.zero_le _, Nat.zero_le _, ⟨fun j r h => absurd h (Nat.not_lt_zero _)⟩⟩
    case round =>
      obtain ⟨k, rfl, hk, hk40, HA⟩ := hrel
      by_cases hlt : k < m
      · obtain ⟨ad, A', m', c', r, rfl, hc, -, hr', hrk⟩ := HR.out.at_ k hlt
        have HK := Aside0.mk (And.intro hr'.1 hrk)
        have hm' := hr'.2.1
        clear hr' hrk
        by_cases h1 : k < 40
        · by_cases h2 : m' ≤ 300
          · have h1' : decide ((40 : Int) ≤ (k : Int)) = false := by simp; omega
            have h2' : decide ((300 : Int) < (m' : Int)) = false := by simp; omega
            go_wp2
            go_round
            case rel => exact ⟨k + 1, by go_num, by omega, by omega, ⟨fun j s hj hs => by
              rcases Nat.lt_or_ge j k with h | h
              · exact HA.out j s h hs
              · obtain rfl : j = k := by omega
                obtain rfl := Option.some.inj (hs.symm.trans HK.out.2)
                have := HK.out.1
                omega⟩⟩
            case measure => (simp [intOf]; try omega)
          · have h1' : decide ((40 : Int) ≤ (k : Int)) = false := by simp; omega
            have h2' : decide ((300 : Int) < (m' : Int)) = true := by simp; omega
            go_wp2_with (go_at_call 18; go_must (refine (awake_calls _).mono ?_; rintro e w6 ⟨rfl, hb6⟩; have HB6 := Aside0.mk hb6; clear hb6))
            go_ret
            exact ⟨rfl, HB6.out⟩
        · have h1' : decide ((40 : Int) ≤ (k : Int)) = true := by simp; omega
          go_wp2_with (go_at_call 18; go_must (refine (awake_calls _).mono ?_; rintro e w6 ⟨rfl, hb6⟩; have HB6 := Aside0.mk hb6; clear hb6))
          go_ret
          exact ⟨rfl, HB6.out⟩
      · obtain rfl : k = m := by omega
        have hlt' : decide ((k : Int) < k) = false := by simp
        go_wp2
        go_meet
        case rel => exact ⟨hk40, ⟨fun r hr => by
          obtain ⟨j, hj, e⟩ := List.mem_iff_getElem.1 hr
          exact HA.out j r (by have := HM.out; omega) (by rw [List.getElem?_eq_getElem hj, e])⟩, rfl⟩
  case rest =>
    obtain ⟨h40, HS, rfl⟩ := hcut
    have hq : ∀ r ∈ rows, (r.length : Int) ≤ 300 ∧ r.length ≤ 18446744073709551615 := fun r hr => by have := HS.out r hr; omega
    have HQ := Aside0.mk hq
    have HT := Aside0.mk (takeL_put (q := 300) (most := 40) hq (by have := HM.out; omega) (by have := HM.out; omega))
    have HC := Aside0.mk (takeL_cut (q := 300) (most := 40) hq (by have := HM.out; omega) (by have := HM.out; omega))
    have HTOT := Aside0.mk (show ∀ k, (putRows (rows.take k)).length ≤ 12400 from fun k => Nat.le_trans (Short.take HS.out (by decide)) (by have := HM.out; omega))
    have HPB := Aside0.mk (show Bytes (putL rows) from (putN_bytes10 (by have := HM.out; omega) (by omega)).append (putRows_bytes fun r hr => ⟨HBY.out r hr, by have := HS.out r hr; omega⟩))
    have HPL := Aside0.mk (show (putL rows).length ≤ 12410 ∧ 1 ≤ (putL rows).length by
      have h1 := HTOT.out rows.length
      rw [List.take_length] at h1
      have h2 := putN_len10 (n := (rows.length : Int)) (by have := HM.out; omega)
      have h3 := putN_pos (rows.length : Int)
      unfold putL
      simp only [List.length_append]
      omega)
    clear hq
    go_upto_region 9 with (first
      | (go_at_call 29; go_must (refine (putRowsL_calls none A 0 0 m c [] rows 12400 _ (reads_nil _ _) HR.out HTOT.out (by decide)).mono ?_; rintro e w1 ⟨v, rfl, ho, hb⟩; rw [List.nil_append] at ho; obtain ⟨A6, m6, c6, rfl, hm6, hc6, hr6⟩ := OwnB.reads ho; have HR6 := Aside0.mk hr6; have HB6 := Aside0.mk hb; have HM6 := Aside0.mk hm6; clear ho hb hr6 hm6)))
    have hm6 := HPL.out
    rw [← HM6.out] at hm6
    have hm6a := hm6.1
    have hm6b := hm6.2
    clear hm6
    go_upto_region 10 with (first
      | (go_at_call 25; go_must (refine (take300_calls A6 m6 c6 (putL rows) 40 _ HR6.out hc6 HPB.out (by omega) (by decide) (by decide)).mono ?_; rintro e w2 ⟨v2, rfl, ho, hb⟩; rw [HT.out, ← HM6.out] at ho ⊢; obtain ⟨A7, m7, c7, rfl, hm7, hr7⟩ := ho.slice; have HR7 := Aside0.mk hr7; have HB7 := Aside0.mk (below_then HB6.out HB6.out.size hb); have HR67 := Aside0.mk (HR6.out.below hb); obtain rfl : m7 = m := hm7.trans HM.out; clear ho hb hr7 hm7)))
    have e8 : ((m6 : Int) != (m6 : Int)) = false := by simp
    have e9 : decide ((m6 : Int) < 1) = false := by simp; omega
    obtain ⟨i8, hi8, hz8⟩ := Option.map_eq_some_iff.1 infoU8
    go_upto_region 12 with (first
      | (go_at_call 28; go_must (refine (sameBytes_calls A7 A _ c7 c rows _ HR7.out (HR.out.below HB7.out)).mono ?_; rintro e w3 ⟨rfl, hb⟩; have HB8 := Aside0.mk (below_then HB7.out HB7.out.size hb); have HR68 := Aside0.mk (HR67.out.below hb); clear hb)))
    have hcut := fun W => run_cut_to (A := A6) (n := m6) (c := c6) W ((m6 : Int) - 1) (by omega) (by omega)
    rw [show ((m6 : Int) - 1).toNat = m6 - 1 by omega] at hcut
    have HRC := Aside0.mk (HR68.out.take_ (m6 - 1) (by omega))
    rw [HM6.out] at HRC
    go_upto_region 13 with (first
      | (go_at_call 25; go_must (refine (take300_calls A6 (m6 - 1) c6 _ 40 _ (by rw [HM6.out]; exact HRC.out) (by omega) (HPB.out.take _) (by omega) (by decide) (by decide)).mono ?_; rintro e w4 ⟨v4, rfl, ho, hb⟩; rw [HC.out]; have HB9 := Aside0.mk (below_then HB8.out HB8.out.size hb); clear ho hb)))
    go_wp2_with (go_at_call 18; go_must (refine (awake_calls _).mono ?_; rintro e w6 ⟨rfl, hb6⟩; have HB10 := Aside0.mk (below_then HB9.out HB9.out.size hb6); clear hb6))
    go_ret
    exact ⟨rfl, HB10.out⟩
end Go.Proofs.Ytcgmfbefikpkbaa
