/-
  The walks of TakeList over takers of bytes, and of PutList over PutBytes.
-/
import Derived.Test.YtcgmfbefikpkbaaWireL
import Derived.Test.YtcgmfbefikpkbaaWireO
namespace Go.Proofs.Ytcgmfbefikpkbaa
open Go.RowKit Go.Proofs.YtcgmfbefikpkbaaW.PrintWords Go.RegionInvYtcgmfbefikpkbaa

theorem takeB_count {xs : List Int} {q : Int} {at_ n : Nat} (hB : Bytes xs) (hn : xs.length = n) (ha : at_ ≤ n) : ∃ k : Nat, (takeB (xs.drop at_) q).2.1 = (k : Int) ∧ at_ + k ≤ n ∧ ((takeB (xs.drop at_) q).2.2 = 0 → 1 ≤ k) := by
  have h := takeB_used (xs := xs.drop at_) (most := q) (hB.drop at_)
  refine ⟨(takeB (xs.drop at_) q).2.1.toNat, by omega, ?_, fun h0 => ?_⟩
  · have := h.2.1; simp only [List.length_drop] at this; omega
  · have := h.2.2.1 h0; omega
theorem notNil_putB (W : World) : (binOp .eql 36 (.func (.func 21) #[] #[]) .nilFunc).run Try.prog W = .ok (.bool false) W := by kernel_rfl
theorem notNil_rows (W : World) : (binOp .eql 40 (.func (.func 34) #[] #[]) .nilFunc).run Try.prog W = .ok (.bool false) W := by kernel_rfl

set_option maxHeartbeats 2000000 in
theorem row300_calls (A : Option Addr) (n c : Nat) (xs : List Int) (w : World) (hr : ReadsInt w .u8 A n xs) (hc : n ≤ c) (hB : Bytes xs) (hl : n ≤ 140737488355000) :
    Calls Try.prog 34 #[.slice A n c] w fun e w' => ∃ v, e = .returned (.tuple #[v, .int .i64 (takeB xs 300).2.1, .int .i64 (takeB xs 300).2.2]) ∧ OwnB w' w.heap.size v (takeB xs 300).1 ∧ Below w.heap.size w w' := by
  have HR := Aside0.mk hr
  clear hr
  go_enter Try.func34, Try.ntmps34
  go_wp2_with (go_at_call 19; go_must (refine (takeBytes_calls A n c xs 300 _ HR.out hc hB hl (by decide) (by decide)).mono ?_; rintro e w1 ⟨v, rfl, ho, hb⟩; have HO := Aside0.mk ho; have HB := Aside0.mk hb; clear ho hb))
  go_ret3
  exact ⟨v, rfl, HO.out, HB.out⟩

/-- What TakeList tells. -/
def RowsPost (w : World) (r : List (List Int) × Int × Int) (e : Ending) (w' : World) : Prop := ∃ v, e = .returned (.tuple #[v, .int .i64 r.2.1, .int .i64 r.2.2]) ∧ OwnL w' w.heap.size v r.1 ∧ Below w.heap.size w w'
theorem rowsPost_none {w w' : World} {r : List (List Int) × Int × Int} {e : Int} (h : r = ([], 0, e)) (hb : Below w.heap.size w w') : RowsPost w r (.returned (.tuple #[.slice none 0 0, .int .i64 0, .int .i64 e])) w' := by
  subst h; exact ⟨_, rfl, OwnL.nil _ _, hb⟩

set_option maxHeartbeats 4000000 in
theorem takeSmall_calls (A : Option Addr) (n c : Nat) (xs : List Int) (most : Int) (w : World) (hr : ReadsInt w .u8 A n xs) (hc : n ≤ c) (hB : Bytes xs) (hl : n ≤ 100000) (hm0 : -9223372036854775808 ≤ most) (hm1 : most ≤ 9223372036854775807) :
    Calls Try.prog 25 #[.slice A n c, .int .i64 most, .func (.func 24) #[] #[]] w (RowsPost w (takeL 5 xs most)) := by
  have HR := Aside0.mk hr
  have hxn := hr.1
  have HN := Aside0.mk hxn
  have hnil := notNil_take
  go_enter Try.func25, Try.ntmps25
  rcases takeN_cases hB with hT | hT | ⟨m, k, hT, hm, hk1, hk2⟩
  · have HE := Aside0.mk (takeL_err (q := 5) (most := most) hT (by decide))
    have HT := Aside0.mk hT
    clear hT hr hxn
    go_wp2_with (go_at_call 10; go_must (refine (take_calls _ _ _ xs _ HR.out hB (by omega)).mono ?_; rintro e w' ⟨rfl, hw⟩; obtain rfl : w = w' := hw.symm; rw [HT.out]))
    go_ret3
    exact rowsPost_none HE.out (Below.refl _ _)
  · have HE := Aside0.mk (takeL_err (q := 5) (most := most) hT (by decide))
    have HT := Aside0.mk hT
    clear hT hr hxn
    go_wp2_with (go_at_call 10; go_must (refine (take_calls _ _ _ xs _ HR.out hB (by omega)).mono ?_; rintro e w' ⟨rfl, hw⟩; obtain rfl : w = w' := hw.symm; rw [HT.out]))
    go_ret3
    exact rowsPost_none HE.out (Below.refl _ _)
  · have HT := Aside0.mk hT
    by_cases hlong : most < 0 ∨ most < m
    · have HE := Aside0.mk (takeL_many (q := 5) hT hlong)
      clear hT hr hxn
      rcases Int.lt_or_le most 0 with h0 | h0
      · clear hlong
        go_wp2_with (go_at_call 10; go_must (refine (take_calls _ _ _ xs _ HR.out hB (by omega)).mono ?_; rintro e w' ⟨rfl, hw⟩; obtain rfl : w = w' := hw.symm; rw [HT.out]))
        go_ret3
        exact rowsPost_none HE.out (Below.refl _ _)
      · have h1 : most < m := by omega
        clear hlong
        go_wp2_with (go_at_call 10; go_must (refine (take_calls _ _ _ xs _ HR.out hB (by omega)).mono ?_; rintro e w' ⟨rfl, hw⟩; obtain rfl : w = w' := hw.symm; rw [HT.out]))
        go_ret3
        exact rowsPost_none HE.out (Below.refl _ _)
    · have h0 : 0 ≤ most := by omega
      have h1 : (m : Int) ≤ most := by omega
      have HE := Aside0.mk (takeL_ok (q := 5) hT hlong)
      have hk3 : k ≤ n := by omega
      clear hT hr hlong hxn
      go_wp2_with (go_at_call 10; go_must (refine (take_calls _ _ _ xs _ HR.out hB (by omega)).mono ?_; rintro e w' ⟨rfl, hw⟩; obtain rfl : w = w' := hw.symm; rw [HT.out]))
      go_loopw [9, 10, 12] (fun u p v wr => ∃ (r at_ : Nat) (acc : List (List Int)), u = .int .u64 r ∧ p = .int .i64 at_ ∧ r ≤ 18446744073709551615 ∧ at_ ≤ n ∧ acc.length ≤ at_ ∧ Aside0 (takeK 5 xs r at_ acc = takeL 5 xs most) ∧ Aside0 (OwnL wr w.heap.size v acc) ∧ Aside0 (Below w.heap.size w wr)) (fun u _ _ _ => (intOf u).toNat)
      case atStart => exact ⟨m, k, [], rfl, rfl, hm, hk3, Nat.zero_le _, ⟨HE.out.symm⟩, ⟨OwnL.nil _ _⟩, ⟨Below.refl _ _⟩⟩
      case round =>
        clear HE HT
        obtain ⟨r, at_, acc, rfl, rfl, hr64, hat, hacc, HE, HO, HB⟩ := hrel
        rcases r with _ | r
        · have HE2 := Aside0.mk (show takeL 5 xs most = (acc, (at_ : Int), 0) from HE.out.symm)
          go_wp2
          go_ret3
          exact ⟨u12, by rw [HE2.out]; rfl, by rw [HE2.out]; exact HO.out, HB.out⟩
        · obtain ⟨A', hcut, hrd⟩ := run_cut_from (A := A) (n := n) (c := c) at_ hat
          have HRD := Aside0.mk (hrd wr xs hc (HR.out.below HB.out))
          have hbs := hB.drop at_
          have hcc : n - at_ ≤ c - at_ := by omega
          obtain ⟨kk, hkk, hle, hpos⟩ := takeB_count (q := 5) hB HN.out hat
          have hr1 : (((r + 1 : Nat) : Int) == 0) = false := by simp; omega
          clear hrd
          by_cases hE : (takeB (xs.drop at_) 5).2.2 = 0
          · have HK := Aside0.mk ((takeK_ok (k := r) (acc := acc) hE).symm.trans HE.out)
            rw [hkk] at HK
            have HKK := Aside0.mk hkk
            have HE0 := Aside0.mk hE
            have hp := hpos hE
            obtain ⟨vs, hov, hvl, hel⟩ := HO.out.len
            have HOV := Aside0.mk hov
            have HEL := Aside0.mk hel
            have hvl2 : vs.length ≤ 100000 := by omega
            clear hE hpos hkk hov hel hvl HO
            go_wp2_with (first
              | (go_at_call 24; go_must (refine (small_calls A' (n - at_) (c - at_) (xs.drop at_) _ HRD.out hcc hbs (by omega)).mono ?_; rintro e w2 ⟨v2, rfl, ho, hb⟩; rw [HKK.out, HE0.out]; obtain ⟨A2, c2, rfl⟩ := own_slice ho; have HO2 := Aside0.mk (own_weaken ho HB.out.size); have HB2 := Aside0.mk (below_then HB.out HB.out.size hb); have HOV2 := Aside0.mk (pw_own_below HOV.out hb); have HEL2 := Aside0.mk (⟨HEL.out.1, fun j v r hv hr => pw_own_below (HEL.out.2 j v r hv hr) hb⟩ : Elems w2 w.heap.size vs acc); clear ho hb))
              | (at_builtin; go_must (refine print_append (w0 := w2) w.heap.size rfl (.tmp 65) (.tmp 67) 42 22 (.slice none 0 0) 24 rfl Try.underlying42 infoBs (by decide) (by decide) u12 vs _ rfl rfl rfl HOV2.out (Below.refl _ _) HB2.out.size (by omega) ?_; intro v3 w3 ho hb hg _; have HO3 := Aside0.mk (OwnL.push HOV2.out HEL2.out HO2.out ho hg); have HB3 := Aside0.mk (HB2.out.trans hb); clear ho hb hg)))
            go_roundw
            case rel => exact ⟨r, at_ + kk, acc ++ [(takeB (xs.drop at_) 5).1], by go_num, by go_num, by omega, by omega, by simp; omega, HK, HO3, HB3⟩
            case measure => (simp [intOf]; try omega)
          · have HK := Aside0.mk (HE.out.symm.trans (takeK_bad (k := r) (acc := acc) hE))
            have hE2 : ((takeB (xs.drop at_) 5).2.2 != 0) = true := by simp [hE]
            clear hE hpos hkk HO
            go_wp2_with (first
              | (go_at_call 24; go_must (refine (small_calls A' (n - at_) (c - at_) (xs.drop at_) _ HRD.out hcc hbs (by omega)).mono ?_; rintro e w2 ⟨v2, rfl, ho, hb⟩; have HB2 := Aside0.mk (below_then HB.out HB.out.size hb); clear ho hb)))
            go_ret3
            exact rowsPost_none HK.out HB2.out

set_option maxHeartbeats 4000000 in
theorem take300_calls (A : Option Addr) (n c : Nat) (xs : List Int) (most : Int) (w : World) (hr : ReadsInt w .u8 A n xs) (hc : n ≤ c) (hB : Bytes xs) (hl : n ≤ 100000) (hm0 : -9223372036854775808 ≤ most) (hm1 : most ≤ 9223372036854775807) :
    Calls Try.prog 25 #[.slice A n c, .int .i64 most, .func (.func 34) #[] #[]] w (RowsPost w (takeL 300 xs most)) := by
  have HR := Aside0.mk hr
  have hxn := hr.1
  have HN := Aside0.mk hxn
  have hnil := notNil_rows
  go_enter Try.func25, Try.ntmps25
  rcases takeN_cases hB with hT | hT | ⟨m, k, hT, hm, hk1, hk2⟩
  · have HE := Aside0.mk (takeL_err (q := 300) (most := most) hT (by decide))
    have HT := Aside0.mk hT
    clear hT hr hxn
    go_wp2_with (go_at_call 10; go_must (refine (take_calls _ _ _ xs _ HR.out hB (by omega)).mono ?_; rintro e w' ⟨rfl, hw⟩; obtain rfl : w = w' := hw.symm; rw [HT.out]))
    go_ret3
    exact rowsPost_none HE.out (Below.refl _ _)
  · have HE := Aside0.mk (takeL_err (q := 300) (most := most) hT (by decide))
    have HT := Aside0.mk hT
    clear hT hr hxn
    go_wp2_with (go_at_call 10; go_must (refine (take_calls _ _ _ xs _ HR.out hB (by omega)).mono ?_; rintro e w' ⟨rfl, hw⟩; obtain rfl : w = w' := hw.symm; rw [HT.out]))
    go_ret3
    exact rowsPost_none HE.out (Below.refl _ _)
  · have HT := Aside0.mk hT
    by_cases hlong : most < 0 ∨ most < m
    · have HE := Aside0.mk (takeL_many (q := 300) hT hlong)
      clear hT hr hxn
      rcases Int.lt_or_le most 0 with h0 | h0
      · clear hlong
        go_wp2_with (go_at_call 10; go_must (refine (take_calls _ _ _ xs _ HR.out hB (by omega)).mono ?_; rintro e w' ⟨rfl, hw⟩; obtain rfl : w = w' := hw.symm; rw [HT.out]))
        go_ret3
        exact rowsPost_none HE.out (Below.refl _ _)
      · have h1 : most < m := by omega
        clear hlong
        go_wp2_with (go_at_call 10; go_must (refine (take_calls _ _ _ xs _ HR.out hB (by omega)).mono ?_; rintro e w' ⟨rfl, hw⟩; obtain rfl : w = w' := hw.symm; rw [HT.out]))
        go_ret3
        exact rowsPost_none HE.out (Below.refl _ _)
    · have h0 : 0 ≤ most := by omega
      have h1 : (m : Int) ≤ most := by omega
      have HE := Aside0.mk (takeL_ok (q := 300) hT hlong)
      have hk3 : k ≤ n := by omega
      clear hT hr hlong hxn
      go_wp2_with (go_at_call 10; go_must (refine (take_calls _ _ _ xs _ HR.out hB (by omega)).mono ?_; rintro e w' ⟨rfl, hw⟩; obtain rfl : w = w' := hw.symm; rw [HT.out]))
      go_loopw [9, 10, 12] (fun u p v wr => ∃ (r at_ : Nat) (acc : List (List Int)), u = .int .u64 r ∧ p = .int .i64 at_ ∧ r ≤ 18446744073709551615 ∧ at_ ≤ n ∧ acc.length ≤ at_ ∧ Aside0 (takeK 300 xs r at_ acc = takeL 300 xs most) ∧ Aside0 (OwnL wr w.heap.size v acc) ∧ Aside0 (Below w.heap.size w wr)) (fun u _ _ _ => (intOf u).toNat)
      case atStart => exact ⟨m, k, [], rfl, rfl, hm, hk3, Nat.zero_le _, ⟨HE.out.symm⟩, ⟨OwnL.nil _ _⟩, ⟨Below.refl _ _⟩⟩
      case round =>
        clear HE HT
        obtain ⟨r, at_, acc, rfl, rfl, hr64, hat, hacc, HE, HO, HB⟩ := hrel
        rcases r with _ | r
        · have HE2 := Aside0.mk (show takeL 300 xs most = (acc, (at_ : Int), 0) from HE.out.symm)
          go_wp2
          go_ret3
          exact ⟨u12, by rw [HE2.out]; rfl, by rw [HE2.out]; exact HO.out, HB.out⟩
        · obtain ⟨A', hcut, hrd⟩ := run_cut_from (A := A) (n := n) (c := c) at_ hat
          have HRD := Aside0.mk (hrd wr xs hc (HR.out.below HB.out))
          have hbs := hB.drop at_
          have hcc : n - at_ ≤ c - at_ := by omega
          obtain ⟨kk, hkk, hle, hpos⟩ := takeB_count (q := 300) hB HN.out hat
          have hr1 : (((r + 1 : Nat) : Int) == 0) = false := by simp; omega
          clear hrd
          by_cases hE : (takeB (xs.drop at_) 300).2.2 = 0
          · have HK := Aside0.mk ((takeK_ok (k := r) (acc := acc) hE).symm.trans HE.out)
            rw [hkk] at HK
            have HKK := Aside0.mk hkk
            have HE0 := Aside0.mk hE
            have hp := hpos hE
            obtain ⟨vs, hov, hvl, hel⟩ := HO.out.len
            have HOV := Aside0.mk hov
            have HEL := Aside0.mk hel
            have hvl2 : vs.length ≤ 100000 := by omega
            clear hE hpos hkk hov hel hvl HO
            go_wp2_with (first
              | (go_at_call 34; go_must (refine (row300_calls A' (n - at_) (c - at_) (xs.drop at_) _ HRD.out hcc hbs (by omega)).mono ?_; rintro e w2 ⟨v2, rfl, ho, hb⟩; rw [HKK.out, HE0.out]; obtain ⟨A2, c2, rfl⟩ := own_slice ho; have HO2 := Aside0.mk (own_weaken ho HB.out.size); have HB2 := Aside0.mk (below_then HB.out HB.out.size hb); have HOV2 := Aside0.mk (pw_own_below HOV.out hb); have HEL2 := Aside0.mk (⟨HEL.out.1, fun j v r hv hr => pw_own_below (HEL.out.2 j v r hv hr) hb⟩ : Elems w2 w.heap.size vs acc); clear ho hb))
              | (at_builtin; go_must (refine print_append (w0 := w2) w.heap.size rfl (.tmp 65) (.tmp 67) 42 22 (.slice none 0 0) 24 rfl Try.underlying42 infoBs (by decide) (by decide) u12 vs _ rfl rfl rfl HOV2.out (Below.refl _ _) HB2.out.size (by omega) ?_; intro v3 w3 ho hb hg _; have HO3 := Aside0.mk (OwnL.push HOV2.out HEL2.out HO2.out ho hg); have HB3 := Aside0.mk (HB2.out.trans hb); clear ho hb hg)))
            go_roundw
            case rel => exact ⟨r, at_ + kk, acc ++ [(takeB (xs.drop at_) 300).1], by go_num, by go_num, by omega, by omega, by simp; omega, HK, HO3, HB3⟩
            case measure => (simp [intOf]; try omega)
          · have HK := Aside0.mk (HE.out.symm.trans (takeK_bad (k := r) (acc := acc) hE))
            have hE2 : ((takeB (xs.drop at_) 300).2.2 != 0) = true := by simp [hE]
            clear hE hpos hkk HO
            go_wp2_with (first
              | (go_at_call 34; go_must (refine (row300_calls A' (n - at_) (c - at_) (xs.drop at_) _ HRD.out hcc hbs (by omega)).mono ?_; rintro e w2 ⟨v2, rfl, ho, hb⟩; have HB2 := Aside0.mk (below_then HB.out HB.out.size hb); clear ho hb)))
            go_ret3
            exact rowsPost_none HK.out HB2.out


set_option maxHeartbeats 4000000 in
theorem putRowsL_calls (A A2 : Option Addr) (n c m c2 : Nat) (xs : List Int) (rows : List (List Int)) (tot : Nat) (w : World) (hr : ReadsInt w .u8 A n xs) (hr2 : ReadsRows w A2 m rows) (ht : ∀ k, (putRows (rows.take k)).length ≤ tot) (hl : n + tot ≤ 140737488350000) :
    Calls Try.prog 29 #[.slice A n c, .slice A2 m c2, .func (.func 21) #[] #[]] w fun e w' => ∃ v, e = .returned v ∧ OwnB w' w.heap.size v (xs ++ putL rows) ∧ Below w.heap.size w w' := by
  have HR := Aside0.mk hr
  have HR2 := Aside0.mk hr2
  have hM := hr2.1
  have HM := Aside0.mk hM
  have HN := Aside0.mk hr.1
  have hm1 := hr2.2.1
  have hnil := notNil_putB
  have HT := Aside0.mk ht
  have HP := Aside0.mk (putN_len10 (n := (m : Int)) (by omega))
  clear hr hr2 hM ht
  go_enter Try.func29, Try.ntmps29
  go_wp2_with (first
    | (go_at_call 14; go_must (refine (put_calls A n c xs (m : Int) _ HR.out (by omega) (by omega) (by omega)).mono ?_; rintro e w1 ⟨v, rfl, ho, hb⟩; have HO := Aside0.mk ho; have HB := Aside0.mk hb; clear ho hb)))
  go_loopw [7, 21] (fun u i wr => ∃ k : Nat, i = .int .i64 k ∧ k ≤ m ∧ Aside0 (OwnB wr w.heap.size u (xs ++ putN (m : Int) ++ putRows (rows.take k))) ∧ Aside0 (Below w.heap.size w wr)) (fun _ i _ => m - (intOf i).toNat)
  case atStart => exact ⟨0, rfl, Nat.zero_le _, ⟨by simpa [putRows] using HO.out⟩, HB⟩
  case round =>
    clear HO HB
    obtain ⟨k, rfl, hk, HO, HB⟩ := hrel
    by_cases hlt : k < m
    · obtain ⟨ad, A', m', c', r, rfl, hc, -, hr', hrk⟩ := (HR2.out.below HB.out).at_ k hlt
      have HR' := Aside0.mk hr'
      have HK := Aside0.mk hrk
      obtain ⟨A3, m3, c3, rfl, hm3, -, hr3⟩ := OwnB.reads HO.out
      have HR3 := Aside0.mk hr3
      have HS := Aside0.mk (show rows.take (k + 1) = rows.take k ++ [r] by rw [List.take_add_one, HK.out]; rfl)
      have hsz : m3 + m' ≤ 140737488351232 := by
        have h1 := HT.out (k + 1)
        rw [HS.out, putRows_snoc] at h1
        have h2 := HP.out
        have h3 := HN.out
        have h4 := hr'.1
        unfold putB at h1
        simp only [List.length_append] at h1 hm3
        omega
      clear hr' hrk hr3 hm3
      go_wp2_with (first
        | (go_at_call 21; go_must (refine (putBytes_calls A3 A' m3 c3 m' c' _ r _ HR3.out HR'.out hsz).mono ?_; rintro e w2 ⟨v2, rfl, ho, hb⟩; have HO2 := Aside0.mk (own_weaken ho HB.out.size); have HB2 := Aside0.mk (below_then HB.out HB.out.size hb); clear ho hb)))
      go_roundw
      case rel => exact ⟨k + 1, by go_num, by omega, ⟨by rw [HS.out, putRows_snoc, ← List.append_assoc]; exact HO2.out⟩, HB2⟩
      case measure => simp [intOf]; omega
    · obtain rfl : k = m := by omega
      have hlt' : decide ((k : Int) < k) = false := by simp
      have HO3 := Aside0.mk (show OwnB wr w.heap.size u7 (xs ++ putL rows) by
        have := HO.out
        rw [List.take_of_length_le (by have := HM.out; omega)] at this
        unfold putL
        rw [HM.out, ← List.append_assoc]; exact this)
      go_wp2
      go_ret
      exact ⟨_, rfl, HO3.out, HB.out⟩
end Go.Proofs.Ytcgmfbefikpkbaa
