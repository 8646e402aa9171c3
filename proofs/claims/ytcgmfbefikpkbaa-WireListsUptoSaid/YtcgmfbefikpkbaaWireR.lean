/-
  The walks of the reference's numbers: Take, TakeInt, Put, PutInt.
-/
import Derived.Test.YtcgmfbefikpkbaaWireT
import Derived.Test.YtcgmfbefikpkbaaRegion
namespace Go.Proofs.Ytcgmfbefikpkbaa
open Go.RowKit Go.Proofs.YtcgmfbefikpkbaaW.PrintWords Go.RegionInvYtcgmfbefikpkbaa

set_option maxHeartbeats 1000000 in
theorem refTake_calls (A : Option Addr) (n c : Nat) (xs : List Int) (w : World) (hr : ReadsInt w .u8 A n xs) (hB : Bytes xs) (hl : n ≤ 140737488355000) :
    Calls Try.prog 11 #[.slice A n c] w fun e w' => e = .returned (.tuple #[.int .u64 (takeN xs).1, .int .i64 (takeN xs).2.1, .int .i64 (takeN xs).2.2]) ∧ w' = w := by
  have HR := Aside0.mk hr
  have HN := Aside0.mk hr.1
  have HL := Aside0.mk (lead_le xs)
  clear hr
  go_enter Try.func11, Try.ntmps11
  go_upto_block 0 with (fail)
  go_cut [5] (fun v wc => v = .int .i64 (lead xs) ∧ wc = w)
  case first =>
    go_wp2
    go_loop [5] (fun v => ∃ k : Nat, v = .int .i64 k ∧ k ≤ n ∧ Aside0 (∀ j, j < k → 128 ≤ xs.getD j 0)) (fun v => n - (intOf v).toNat)
    case atStart => exact ⟨0, rfl, Nat.zero_le _, ⟨fun j hj => absurd hj (Nat.not_lt_zero _)⟩⟩
    case round =>
      obtain ⟨k, rfl, hk, HA⟩ := hrel
      by_cases hlt : k < n
      · have hlx : k < xs.length := by have := HN.out; omega
        have HL2 := Aside0.mk (lead_at hlx HA.out)
        clear hlx
        obtain ⟨ad, rfl, hc⟩ := HR.out.at_ k (by omega) (by omega)
        rw [rd_nat] at hc
        rw [Int.toNat_natCast] at hc
        by_cases hb : 128 ≤ xs.getD k 0
        · have hb' : decide (128 ≤ xs.getD k 0) = true := decide_eq_true hb
          have HB := Aside0.mk hb
          clear hb
          obtain ⟨z, hz⟩ : ∃ z, z = xs.getD k 0 := ⟨_, rfl⟩
          rw [← hz] at hc hb'
          clear hz
          go_wp2
          go_round
          case rel => exact ⟨k + 1, by go_num, by omega, ⟨fun j hj => by
            rcases Nat.lt_or_ge j k with h | h
            · exact HA.out j h
            · obtain rfl : j = k := by omega
              exact HB.out⟩⟩
          case measure => simp [intOf]; omega
        · have hb' : decide (128 ≤ xs.getD k 0) = false := decide_eq_false hb
          have HB := Aside0.mk (HL2.out.2 (by omega))
          clear hb
          obtain ⟨z, hz⟩ : ∃ z, z = xs.getD k 0 := ⟨_, rfl⟩
          rw [← hz] at hc hb'
          clear hz
          go_wp2
          go_meet
          case rel => exact ⟨by rw [HB.out], rfl⟩
      · have HE := Aside0.mk (lead_all (xs := xs) (fun j hj => HA.out j (by have := HN.out; omega)))
        have hlt' : decide ((k : Int) < n) = false := decide_eq_false (by omega)
        go_wp2
        go_meet
        case rel => exact ⟨by rw [HE.out, HN.out]; congr 2; omega, rfl⟩
  case rest =>
    obtain ⟨rfl, rfl⟩ := hcut
    by_cases h1 : lead xs = n
    · have HE := Aside0.mk (takeN_short (xs := xs) (by rw [h1, HN.out]))
      have h1' : ((lead xs : Int) == (n : Int)) = true := by simp [h1]
      clear h1
      generalize lead xs = k at *
      go_wp2
      go_ret3
      exact ⟨by rw [HE.out]; rfl, rfl⟩
    · have h2 : lead xs < n := by have := HL.out; have := HN.out; omega
      have h1' : ((lead xs : Int) == (n : Int)) = false := by simp; omega
      have hne : lead xs ≠ xs.length := by rw [HN.out]; exact h1
      obtain ⟨ad, rfl, hc⟩ := HR.out.at_ (lead xs) (by omega) (by omega)
      rw [Int.toNat_natCast] at hc
      have hz := hB.at_ (lead xs)
      by_cases hb : badN xs
      · have HE := Aside0.mk (takeN_bad hne hb)
        have hb' := hb
        unfold badN at hb'
        clear hb
        have hk9 : lead xs = 9 → rd xs 9 = rd xs (lead xs : Int) := fun h => by rw [h]; rfl
        clear hne h1
        generalize lead xs = k at *
        obtain ⟨z, hzz⟩ : ∃ z, z = rd xs (k : Int) := ⟨_, rfl⟩
        rw [← hzz] at hc hz hb' hk9
        clear hzz
        have h0 : 0 < k := by omega
        by_cases hz0 : z = 0
        · have h11 : (z == 0) = true := by simp [hz0]
          clear hb' hk9 hz0
          go_wp2
          go_ret3
          exact ⟨by rw [HE.out]; rfl, rfl⟩
        · have h11 : (z == 0) = false := by simp [hz0]
          rcases Nat.lt_or_ge 9 k with h3 | h3
          · clear hb' hk9 hz0
            go_wp2
            go_ret3
            exact ⟨by rw [HE.out]; rfl, rfl⟩
          · have h7 : decide (9 < (k : Int)) = false := by simp; omega
            have h4 : k = 9 ∧ 1 < z := by
              rcases hb' with h | ⟨h, h'⟩ | h
              · omega
              · rw [hk9 h] at h'; exact ⟨h, h'⟩
              · exact absurd h.2 hz0
            obtain ⟨h4, h5⟩ := h4
            have h9 : ((k : Int) == 9) = true := by simp; omega
            have h10 : decide (1 < z) = true := decide_eq_true h5
            clear hb' hk9 h5 h4 hz0
            go_wp2
            go_ret3
            exact ⟨by rw [HE.out]; rfl, rfl⟩
      · have HQ := Aside0.mk (And.intro h2 hb)
        have hb' := hb
        unfold badN at hb'
        have hk9 : lead xs = 9 → rd xs 9 = rd xs (lead xs : Int) := fun h => by rw [h]; rfl
        have h3 : lead xs ≤ 9 := Nat.le_of_not_lt fun h => hb' (.inl h)
        have h4 : lead xs = 9 → rd xs (lead xs : Int) ≤ 1 := fun h => by
          rw [← hk9 h]
          exact Int.not_lt.1 fun h' => hb' (.inr (.inl ⟨h, h'⟩))
        have h5 : 0 < lead xs → rd xs (lead xs : Int) ≠ 0 := fun h h' => hb' (.inr (.inr ⟨h, h'⟩))
        have HE := Aside0.mk (takeN_ok hne hb)
        have HS := Aside0.mk (numOf_small hB (by have := HN.out; omega) hb)
        clear hb' hb hk9 hne h1 HQ
        generalize lead xs = k at *
        obtain ⟨z, hzz⟩ : ∃ z, z = rd xs (k : Int) := ⟨_, rfl⟩
        rw [← hzz] at hc hz h4 h5
        clear hzz
        have h7 : decide (9 < (k : Int)) = false := by simp; omega
        go_upto_region 6 with (fail)
        go_cut [48] (fun v w2 => v = .bool false ∧ w2 = wc)
        case first =>
          by_cases h8 : k = 9
          · have h9 : ((k : Int) == 9) = true := by simp; omega
            have h12 : 0 < k := by omega
            have h10 : decide (1 < z) = false := by have := h4 h8; simp; omega
            have h11 : (z == 0) = false := by have := h5 (by omega); simp; omega
            clear h4 h5 h8
            go_wp2
            go_meet
            case rel => exact ⟨rfl, rfl⟩
          · have h9 : ((k : Int) == 9) = false := by simp; omega
            clear h4
            by_cases h10 : 0 < k
            · have h11 : (z == 0) = false := by have := h5 h10; simp; omega
              clear h5 h8
              go_wp2
              go_meet
              case rel => exact ⟨rfl, rfl⟩
            · have h11 : decide (0 < (k : Int)) = false := by simp; omega
              clear h5 h8
              go_wp2
              go_meet
              case rel => exact ⟨rfl, rfl⟩
        case rest =>
          obtain ⟨rfl, rfl⟩ := hcut
          clear h4 h5 hc hz h7 h1' h3 HL
          go_wp2
          go_loop [6, 7] (fun u v => ∃ j : Nat, j ≤ k + 1 ∧ v = .int .i64 ((j : Int) - 1) ∧ u = .int .u64 (numOf ((xs.take (k + 1)).drop j))) (fun _ v => (intOf v + 1).toNat)
          case atStart => exact ⟨k + 1, by omega, by go_num, by rw [List.drop_of_length_le (by simp; omega)]; rfl⟩
          case round =>
            obtain ⟨j, hj, rfl, rfl⟩ := hrel
            rcases j with _ | j
            · go_wp2
              go_ret3
              exact ⟨by rw [HE.out]; rfl, rfl⟩
            · obtain ⟨ad', hA, hc⟩ := HR.out.at_ j (by omega) (by omega)
              obtain rfl := Option.some.inj hA
              rw [Int.toNat_natCast] at hc
              have hz := hB.at_ (j : Int)
              have HD := Aside0.mk (numOf_step xs k j (by omega) (by have := HN.out; omega) HS.out)
              have hd := HD.out.1
              have hd0 := numOf_nonneg ((xs.take (k + 1)).drop (j + 1))
              obtain ⟨z, hzz⟩ : ∃ z, z = rd xs (j : Int) := ⟨_, rfl⟩
              rw [← hzz] at hc hz HD
              clear hzz
              obtain ⟨d, hdd⟩ : ∃ d, d = numOf ((xs.take (k + 1)).drop (j + 1)) := ⟨_, rfl⟩
              rw [← hdd] at hd hd0 HD ⊢
              clear hdd
              have e0 : ((j + 1 : Nat) : Int) - 1 = (j : Int) := by omega
              rw [e0]
              clear e0
              go_wp2
              rw [u8_and127 hz.1 hz.2, show IntKind.u64.wrap (z % 128) = z % 128 by simp [IntKind.wrap, IntKind.bits, IntKind.signed]; try omega, u64_or_add hd0 hd (by omega) (by omega)]
              refine ⟨⟨j, by omega, rfl, by rw [HD.out.2]⟩, by simp [intOf]⟩

theorem ret3_int {k1 k2 k3 : IntKind} {a a' b b' c c' : Int} (h1 : a = a') (h2 : b = b') (h3 : c = c') : Ending.returned (.tuple #[.int k1 a, .int k2 b, .int k3 c]) = .returned (.tuple #[.int k1 a', .int k2 b', .int k3 c']) := by rw [h1, h2, h3]

set_option maxHeartbeats 1000000 in
theorem refTakeInt_calls (A : Option Addr) (n c : Nat) (xs : List Int) (w : World) (hr : ReadsInt w .u8 A n xs) (hB : Bytes xs) (hl : n ≤ 140737488355000) :
    Calls Try.prog 13 #[.slice A n c] w fun e w' => e = .returned (.tuple #[.int .i64 (zag (takeN xs).1), .int .i64 (takeN xs).2.1, .int .i64 (takeN xs).2.2]) ∧ w' = w := by
  have HR := Aside0.mk hr
  have hu := takeN_range hB
  clear hr
  go_enter Try.func13, Try.ntmps13
  go_upto_region 2 with (go_at_call 11; go_must (refine (refTake_calls _ _ _ xs _ HR.out hB hl).mono ?_; rintro e w' ⟨rfl, rfl⟩))
  obtain ⟨u, hu0⟩ : ∃ u, (takeN xs).1 = u := ⟨_, rfl⟩
  have HU := Aside0.mk hu0
  rw [hu0] at hu ⊢
  clear hu0
  have ha := u64_and1 hu.1 hu.2
  by_cases h : u % 2 = 1
  · have h1 : (Go.bits .and .u64 u 1 == 1) = true := by rw [ha, h]; rfl
    have hz : zag u = -(u / 2) - 1 := by unfold zag; rw [if_pos h]
    have HZ := Aside0.mk hz
    clear ha h hz
    go_wp2
    go_ret3
    exact ⟨ret3_int (by rw [HU.out, HZ.out]) rfl rfl, rfl⟩
  · have h1 : (Go.bits .and .u64 u 1 == 1) = false := by rw [ha]; simp [h]
    have hz : zag u = u / 2 := by unfold zag; rw [if_neg h]
    have HZ := Aside0.mk hz
    clear ha h hz
    go_wp2
    go_ret3
    exact ⟨ret3_int (by rw [HU.out, HZ.out]) rfl rfl, rfl⟩

set_option maxHeartbeats 1000000 in
theorem refPut_calls (base : Nat) (v : Value) (xs : List Int) (x : Int) (w : World) (ho : OwnB w base v xs) (hb : base ≤ w.heap.size) (h0 : 0 ≤ x) (h1 : x ≤ 18446744073709551615) (hl : xs.length ≤ 140737488355000) :
    Calls Try.prog 15 #[v, .int .u64 x] w fun e w' => ∃ v', e = .returned v' ∧ OwnB w' base v' (xs ++ putN x) ∧ Grew v v' w w' := by
  have HO := Aside0.mk ho
  have HP := Aside0.mk (putN_len10 h1)
  clear ho
  go_enter Try.func15, Try.ntmps15
  go_wp2
  go_loopw [0, 1] (fun v' u wr => ∃ (y : Int) (ys : List Int), u = .int .u64 y ∧ 0 ≤ y ∧ y ≤ 18446744073709551615 ∧ Aside0 (ys ++ putN y = xs ++ putN x) ∧ Aside0 (OwnB wr base v' ys) ∧ Aside0 (Grew v v' w wr)) (fun _ u _ => (intOf u).toNat)
  case atStart => exact ⟨x, xs, rfl, h0, h1, ⟨rfl⟩, HO, ⟨Grew.refl _ _⟩⟩
  case round =>
    clear HO
    obtain ⟨y, ys, rfl, hy0, hy1, HE, HO, HB⟩ := hrel
    have HN := Aside0.mk (show ys.length ≤ 140737488355100 by
      have h := congrArg List.length HE.out
      have h2 := HP.out
      simp only [List.length_append] at h
      omega)
    have hbs : base ≤ wr.heap.size := Nat.le_trans hb HB.out.1.size
    by_cases hlt : 128 ≤ y
    · go_wp2_with (first
        | (at_builtin; go_must (refine print_append_num base rfl (.tmp 7) (.tmp 12) 22 5 .u8 1 rfl Try.underlying22 infoU8 (by decide) u0 ys (Go.bits .or .u8 (Go.bits .and .u64 y 127 % 256) 128) rfl rfl HO.out (Below.refl _ _) hbs (by have := HN.out; omega) ?_; intro v2 w2 ho _ hg hat; have HO2 := Aside0.mk ho; have HB2 := Aside0.mk (HB.out.trans (Grew.of_append hg hat)); clear ho hg hat)))
      go_roundw
      case rel => exact ⟨y / 128, ys ++ [Go.bits .or .u8 (Go.bits .and .u64 y 127 % 256) 128], rfl, by omega, by omega, ⟨by rw [← HE.out, putN_ge hlt, u64_and127 hy0 hy1, u8_or128_add (by omega) (by omega), show y % 128 % 256 % 128 = y % 128 by omega]; simp⟩, HO2, HB2⟩
      case measure => simp [intOf]; omega
    · go_wp2_with (first
        | (at_builtin; go_must (refine print_append_num base rfl (.tmp 16) (.tmp 19) 22 5 .u8 1 rfl Try.underlying22 infoU8 (by decide) u0 ys y rfl rfl HO.out (Below.refl _ _) hbs (by have := HN.out; omega) ?_; intro v2 w2 ho _ hg hat; have HO2 := Aside0.mk ho; have HB2 := Aside0.mk (HB.out.trans (Grew.of_append hg hat)); clear ho hg hat)))
      go_ret
      refine ⟨_, rfl, ?_, HB2.out⟩
      rw [← HE.out, putN_lt (show y < 128 by omega)]; exact HO2.out

set_option maxHeartbeats 1000000 in
theorem refPutInt_calls (base : Nat) (v : Value) (xs : List Int) (x : Int) (w : World) (ho : OwnB w base v xs) (hb : base ≤ w.heap.size) (h0 : -9223372036854775808 ≤ x) (h1 : x ≤ 9223372036854775807) (hl : xs.length ≤ 140737488355000) :
    Calls Try.prog 17 #[v, .int .i64 x] w fun e w' => ∃ v', e = .returned v' ∧ OwnB w' base v' (xs ++ putN (zig x)) ∧ Grew v v' w w' := by
  have HO := Aside0.mk ho
  have hz := zig_range h0 h1
  clear ho
  go_enter Try.func17, Try.ntmps17
  by_cases h : 0 ≤ x
  · have HZ := Aside0.mk (show 2 * x = zig x by unfold zig; rw [if_pos h])
    go_wp2_with fail
    rw [show x * 2 = zig x by rw [← HZ.out]; omega]
    refine (refPut_calls base v xs _ _ HO.out hb hz.1 hz.2 hl).mono ?_
    rintro e w' ⟨v2, rfl, ho, hbe⟩
    have HO2 := Aside0.mk ho
    have HB := Aside0.mk hbe
    clear ho hbe
    go_wp2
    go_ret
    exact ⟨_, rfl, HO2.out, HB.out⟩
  · have HZ := Aside0.mk (show -2 * x - 1 = zig x by unfold zig; rw [if_neg h])
    have hx : -(x + 1) * 2 ≤ 18446744073709551615 := by omega
    go_wp2_with fail
    rw [show Go.bits .or .u64 (-(x + 1) * 2) 1 = zig x by rw [← HZ.out]; exact zig_or h0 (by omega)]
    refine (refPut_calls base v xs _ _ HO.out hb hz.1 hz.2 hl).mono ?_
    rintro e w' ⟨v2, rfl, ho, hbe⟩
    have HO2 := Aside0.mk ho
    have HB := Aside0.mk hbe
    clear ho hbe
    go_wp2
    go_ret
    exact ⟨_, rfl, HO2.out, HB.out⟩
end Go.Proofs.Ytcgmfbefikpkbaa
