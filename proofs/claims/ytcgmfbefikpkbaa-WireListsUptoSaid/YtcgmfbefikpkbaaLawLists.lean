/-
  WireLists: rows of bytes out of any bytes, any bound; rows as bytes: the walk.
-/
import Derived.Test.YtcgmfbefikpkbaaWireLR
namespace Go.Proofs.Ytcgmfbefikpkbaa
open Go.RowKit Go.Proofs.YtcgmfbefikpkbaaW.PrintWords Go.RegionInvYtcgmfbefikpkbaa

def bnd (most : Int) : Int := if 0 < most then most else 0
theorem bnd_pos {most : Int} (h : 0 < most) : bnd most = most := by unfold bnd; rw [if_pos h]
theorem bnd_neg {most : Int} (h : ¬ 0 < most) : bnd most = 0 := by unfold bnd; rw [if_neg h]
/-- Behind the number, and behind its bound. -/
theorem start_cases {xs : List Int} {most : Int} {n : Nat} {tl : List (List Int)} {tu te : Int} (hB : Bytes xs) (hn : xs.length = n) (hT : takeL 5 xs most = (tl, tu, te)) :
    ∃ (N : Nat) (E : Int) (bs : List Int), numR xs = ((N : Int), bs, E) ∧ N ≤ 18446744073709551615 ∧
      ((E ≠ 0 ∧ tl = [] ∧ tu = 0 ∧ te = E) ∨ (E = 0 ∧ (most < 0 ∨ bnd most < N) ∧ tl = [] ∧ tu = 0 ∧ te = 18) ∨ (E = 0 ∧ ¬ (most < 0 ∨ bnd most < N) ∧ ∃ at_, bs = xs.drop at_ ∧ at_ ≤ n ∧ takeK 5 xs N at_ [] = (tl, tu, te))) := by
  rcases takeN_cases hB with h | h | ⟨m, k, h, hm, h1, h2⟩
  · have h3 := takeL_err (q := 5) (most := most) h (by decide)
    rw [hT] at h3
    injection h3 with h4 h5
    injection h5 with h5 h6
    exact ⟨0, 3, xs, numR_err h (by decide), by decide, .inl ⟨by decide, h4, h5, h6⟩⟩
  · have h3 := takeL_err (q := 5) (most := most) h (by decide)
    rw [hT] at h3
    injection h3 with h4 h5
    injection h5 with h5 h6
    exact ⟨0, 4, xs, numR_err h (by decide), by decide, .inl ⟨by decide, h4, h5, h6⟩⟩
  · refine ⟨m, 0, xs.drop k, numR_ok h, hm, .inr ?_⟩
    have hb : (most < 0 ∨ bnd most < m) ↔ (most < 0 ∨ most < m) := by
      by_cases h0 : 0 < most
      · rw [bnd_pos h0]
      · rw [bnd_neg h0]; omega
    by_cases hl : most < 0 ∨ most < m
    · have h3 := takeL_many (q := 5) h hl
      rw [hT] at h3
      injection h3 with h4 h5
      injection h5 with h5 h6
      exact .inl ⟨rfl, hb.2 hl, h4, h5, h6⟩
    · have h3 := takeL_ok (q := 5) h hl
      rw [hT] at h3
      exact .inr ⟨rfl, fun x => hl (hb.1 x), k, rfl, by omega, h3.symm⟩
def RowsSt (wr : World) (g : Nat) (xs : List Int) (n N j : Nat) (y : Value) (tl : List (List Int)) (tu te : Int) : Prop :=
  (∃ bs E, RdAt wr g bs E ∧ E ≠ 0 ∧ tl = [] ∧ tu = 0 ∧ te = E) ∨
  (∃ (r at_ : Nat) (acc : List (List Int)), RdAt wr g (xs.drop at_) 0 ∧ j + r = N ∧ at_ ≤ n ∧ acc.length ≤ at_ ∧ takeK 5 xs r at_ acc = (tl, tu, te) ∧ OwnL wr g y acc)
def RowsFin (wr : World) (g n : Nat) (y : Value) (tl : List (List Int)) (tu te : Int) : Prop :=
  ∃ bs, RdAt wr g bs te ∧ (te = 0 → OwnL wr g y tl ∧ (bs.length : Int) = n - tu) ∧ (te ≠ 0 → tl = [] ∧ tu = 0)
theorem putRows_sum : ∀ (rows : List (List Int)), (rows.map List.length).sum ≤ 1048576 → (putRows rows).length ≤ (rows.map List.length).sum + 10 * rows.length
  | [], _ => by simp [putRows]
  | r :: rows, h => by
    simp only [List.map_cons, List.sum_cons] at h ⊢
    have h1 := putRows_sum rows (by omega)
    have h2 := putB_len r (by omega)
    rw [putRows_cons, List.length_append, List.length_cons]
    omega
theorem sum_take (rows : List (List Int)) (k : Nat) : ((rows.take k).map List.length).sum ≤ (rows.map List.length).sum := by
  conv => rhs; rw [← List.take_append_drop k rows, List.map_append, List.sum_append]
  omega

set_option maxRecDepth 100000 in
set_option maxHeartbeats 8000000 in
theorem lists_law (A A2 : Option Addr) (n c m c2 : Nat) (xs : List Int) (rows : List (List Int)) (most : Int) (w : World) (hr : ReadsInt w .u8 A n xs) (hc : n ≤ c) (hB : Bytes xs) (hr2 : ReadsRows w A2 m rows) (hs : (rows.map List.length).sum ≤ 1048576) (hm0 : -9223372036854775808 ≤ most) (hm1 : most ≤ 9223372036854775807) :
    Calls Try.prog 7 #[.slice A n c, .int .i64 most, .slice A2 m c2] w fun e w' => e = .returned (.bool true) ∧ Below w.heap.size w w' := by
  have HR := Aside0.mk hr
  have HR2 := Aside0.mk hr2
  have HM := Aside0.mk hr2.1
  have HN := Aside0.mk hr.1
  have HSUM := Aside0.mk hs
  have hm9 := hr2.2.1
  have hn9 := hr.2.1
  have HOLD := Aside0.mk (reads_blocks hr)
  clear hr hr2 hs
  go_enter Try.func7, Try.ntmps7
  by_cases hn : 2000 < n
  · go_wp2_with (go_at_call 18; go_must (refine (awake_calls _).mono ?_; rintro e w6 ⟨rfl, hb6⟩; have HB6 := Aside0.mk hb6; clear hb6))
    go_ret
    exact ⟨rfl, HB6.out⟩
  by_cases hm : 50 < m
  · go_wp2_with (go_at_call 18; go_must (refine (awake_calls _).mono ?_; rintro e w6 ⟨rfl, hb6⟩; have HB6 := Aside0.mk hb6; clear hb6))
    go_ret
    exact ⟨rfl, HB6.out⟩
  have hn' : n ≤ 2000 := by omega
  have hm' : m ≤ 50 := by omega
  clear hn hm
  obtain ⟨tl, tu, te, hT⟩ : ∃ a b c, takeL 5 xs most = (a, b, c) := ⟨_, _, _, rfl⟩
  obtain ⟨N, E, bs, hNR, hN64, hcase⟩ := start_cases hB HN.out hT
  have HT := Aside0.mk hT
  have HNR := Aside0.mk hNR
  have HC := Aside0.mk hcase
  clear hT hNR hcase
  go_upto_region 4 with (first
    | (go_at_call 25; go_must (refine (takeSmall_calls A n c xs most _ HR.out hc hB (by omega) hm0 hm1).mono ?_; rintro e w1 ⟨v7, rfl, ho, hb⟩; rw [HT.out] at ho ⊢; obtain ⟨A7, m7, c7, rfl, hm7, -⟩ := ho.slice; have HX1 := Aside0.mk ho; have HM7 := Aside0.mk hm7; have HB1 := Aside0.mk hb; clear ho hb hm7)))
  have hg1 := blk_new w1 (.cells #[.slice A n c, .int .i64 0] 47 (0, 0))
  have hba : Below w1.heap.size w1 (w1.alloc (.cells #[.slice A n c, .int .i64 0] 47 (0, 0))) := (Below.refl _ _).alloc (Nat.le_refl _) _
  have HG2 := Aside0.mk hg1
  have HB2 := Aside0.mk hba
  have hgs := HB1.out.size
  clear hg1 hba
  go_upto_if 38 with (fail)
  go_cut [11] (fun v w2 => v = .int .u64 (bnd most) ∧ Aside0 (w2.heap[w1.heap.size]? = some (.cells #[.slice A n c, .int .i64 0] 47 (0, 0))) ∧ Aside0 (Below w1.heap.size w1 w2))
  case first =>
    by_cases h0 : 0 < most
    · have HZ := Aside0.mk (bnd_pos h0)
      have h0' : decide (0 < most) = true := decide_eq_true h0
      have hw : most % 18446744073709551616 = most := by omega
      go_wp2
      go_meet
      case rel => exact ⟨by rw [HZ.out], HG2, HB2⟩
    · have HZ := Aside0.mk (bnd_neg h0)
      have h0' : decide (0 < most) = false := decide_eq_false h0
      go_wp2
      go_meet
      case rel => exact ⟨by rw [HZ.out], HG2, HB2⟩
  case rest =>
    clear HG2 HB2
    obtain ⟨rfl, HG2, HB2⟩ := hcut
    have holdg : ∀ i, i < n → ∃ ad, A = some ad ∧ ad.block < w1.heap.size := fun i hi => by
      obtain ⟨ad, e, h⟩ := HOLD.out i hi
      exact ⟨ad, e, Nat.lt_of_lt_of_le h hgs⟩
    have HOG := Aside0.mk holdg
    obtain ⟨b, hb⟩ : ∃ b, b = bnd most := ⟨_, rfl⟩
    have hb0 : 0 ≤ b ∧ b ≤ 9223372036854775807 := by rw [hb]; unfold bnd; split <;> omega
    have HBN := Aside0.mk hb
    rw [← hb]
    obtain ⟨g, hg⟩ : ∃ g, g = w1.heap.size := ⟨_, rfl⟩
    rw [← hg] at HG2 HOG HB2 ⊢
    have HGE := Aside0.mk hg
    clear hb hg holdg
    go_upto_region 9 with (first
      | (go_at_call 26; go_must (refine (number_calls g A n c xs _ HG2.out hc (HR.out.below (via HB1.out hgs HGE.out HB2.out)) HOG.out hB (by omega)).mono ?_; rintro e w3 ⟨rfl, hrd, hch⟩; rw [HNR.out] at hrd ⊢; have HB3 := Aside0.mk (Chg.trans_below HB2.out hch (fun k hk => hk ▸ Nat.le_refl _) (Nat.le_of_lt (blk_lt HG2.out))); have HRD3 := Aside0.mk hrd; clear hrd hch)))
    clear HB2 HG2
    go_cut [56] (fun v w4 => v = .bool (decide (E = 0 ∧ (most < 0 ∨ b < N))) ∧ w4 = w3)
    case first =>
      obtain ⟨A3, n3, c3, hg3, -, -, -⟩ := HRD3.out
      have hc1 : w3.cell? ⟨g, 1, none⟩ = some (.int .i64 E) := cell_blk hg3 rfl
      clear hg3
      by_cases h1 : E = 0
      · have h1' : (E == 0) = true := by simp [h1]
        by_cases h2 : most < 0
        · have h2' : decide (most < 0) = true := decide_eq_true h2
          have HD := Aside0.mk (show decide (E = 0 ∧ (most < 0 ∨ b < N)) = true from decide_eq_true ⟨h1, .inl h2⟩)
          clear h1
          go_wp2
          go_meet
          case rel => exact ⟨by rw [HD.out], rfl⟩
        · have h2' : decide (most < 0) = false := decide_eq_false h2
          by_cases h3 : b < N
          · have h3' : decide (b < (N : Int)) = true := decide_eq_true h3
            have HD := Aside0.mk (show decide (E = 0 ∧ (most < 0 ∨ b < N)) = true from decide_eq_true ⟨h1, .inr h3⟩)
            clear h1
            go_wp2
            go_meet
            case rel => exact ⟨by rw [HD.out], rfl⟩
          · have h3' : decide (b < (N : Int)) = false := decide_eq_false h3
            have HD := Aside0.mk (show decide (E = 0 ∧ (most < 0 ∨ b < N)) = false from decide_eq_false (fun h => h.2.elim h2 h3))
            clear h1
            go_wp2
            go_meet
            case rel => exact ⟨by rw [HD.out], rfl⟩
      · have h1' : (E == 0) = false := by simp [h1]
        have HD := Aside0.mk (show decide (E = 0 ∧ (most < 0 ∨ b < N)) = false from decide_eq_false (fun h => h1 h.1))
        clear h1
        go_wp2
        go_meet
        case rel => exact ⟨by rw [HD.out], rfl⟩
    case rest =>
      obtain ⟨rfl, rfl⟩ := hcut
      rw [HBN.out]
      go_upto_if 56 with (fail)
      go_cut [] (fun w4 => Aside0 (RowsSt w4 g xs n N 0 (.slice none 0 0) tl tu te) ∧ Aside0 (Below g w1 w4))
      case first =>
        rcases HC.out with ⟨hE, h1, h2, h3⟩ | ⟨rfl, hl, h1, h2, h3⟩ | ⟨rfl, hl, at_, h1, h2, h3⟩
        · have HS := Aside0.mk (show RowsSt wc g xs n N 0 (.slice none 0 0) tl tu te from .inl ⟨_, _, HRD3.out, hE, h1, h2, h3⟩)
          have hd : decide (E = 0 ∧ (most < 0 ∨ bnd most < N)) = false := decide_eq_false (fun h => hE h.1)
          rw [hd]
          clear hE h1 h2 h3 hd
          go_wp2
          go_meet
          case rel => exact ⟨HS, HB3⟩
        · have hd : decide ((0 : Int) = 0 ∧ (most < 0 ∨ bnd most < N)) = true := decide_eq_true ⟨rfl, hl⟩
          rw [hd]
          obtain ⟨A3, n3, c3, hg3, hc3, hr3, ho3⟩ := HRD3.out
          have hc1 : wc.cell? ⟨g, 1, none⟩ = some (.int .i64 0) := cell_blk hg3 rfl
          have hz1 := blk_frozen hg3 1
          have hch := chg_set wc g 1 (.int .i64 18)
          have HS := Aside0.mk (show RowsSt (wc.setCell ⟨g, 1, none⟩ (.int .i64 18)) g xs n N 0 (.slice none 0 0) tl tu te from
            .inl ⟨bs, 18, ⟨A3, n3, c3, rd_set1 hg3, hc3, reads_chg hr3 ho3 (Nat.le_of_lt (blk_lt hg3)) hch, ho3⟩, by decide, h1, h2, h3⟩)
          have HB4 := Aside0.mk (Chg.trans_below HB3.out hch (fun k hk => hk ▸ Nat.le_refl _) (Nat.le_of_lt (blk_lt hg3)))
          clear h1 h2 h3 hd hg3 hc3 hr3 ho3 hch hl
          go_wp2
          go_meet
          case rel => exact ⟨HS, HB4⟩
        · have HS := Aside0.mk (show RowsSt wc g xs n N 0 (.slice none 0 0) tl tu te from .inr ⟨N, at_, [], by rw [← h1]; exact HRD3.out, by omega, h2, Nat.zero_le _, h3, OwnL.nil _ _⟩)
          have hd : decide ((0 : Int) = 0 ∧ (most < 0 ∨ bnd most < N)) = false := decide_eq_false (fun h => hl h.2)
          rw [hd]
          clear h1 h2 h3 hd hl
          go_wp2
          go_meet
          case rel => exact ⟨HS, HB3⟩
      case rest =>
        clear HRD3 HB3 HC HNR
        obtain ⟨HS, HB⟩ := hcut
        go_upto_block 0 with (fail)
        go_cut [13] (fun v w5 => Aside0 (RowsFin w5 g n v tl tu te) ∧ Aside0 (Below g w1 w5))
        case first =>
          go_wp2
          go_loopw [13, 14] (fun v k wr => ∃ j : Nat, k = .int .u64 j ∧ j ≤ N ∧ Aside0 (RowsSt wr g xs n N j v tl tu te) ∧ Aside0 (Below g w1 wr)) (fun _ k _ => N - (intOf k).toNat)
          case atStart => exact ⟨0, rfl, Nat.zero_le _, HS, HB⟩
          case round =>
            clear HS HB
            obtain ⟨j, rfl, hj, HS, HB⟩ := hrel
            rcases HS.out with ⟨bs', E', hrd, hE, h1, h2, h3⟩ | ⟨r, at_, acc, hrd, hjr, hat, hacc, htk, how⟩
            · have HF := Aside0.mk (show RowsFin wr g n u13 tl tu te from ⟨bs', by rw [h3]; exact hrd, fun h => absurd (h3.symm.trans h) hE, fun _ => ⟨h1, h2⟩⟩)
              obtain ⟨A3, n3, c3, hg3, -, -, -⟩ := hrd
              have hc1 : wr.cell? ⟨g, 1, none⟩ = some (.int .i64 E') := cell_blk hg3 rfl
              have hE' : (E' == 0) = false := by simp [hE]
              clear hE h1 h2 h3 hg3 HS
              by_cases hjN : j < N
              · have hjN' : decide ((j : Int) < (N : Int)) = true := decide_eq_true (by omega)
                go_wp2
                go_meet
                case rel => exact ⟨HF, HB⟩
              · have hjN' : decide ((j : Int) < (N : Int)) = false := decide_eq_false (by omega)
                go_wp2
                go_meet
                case rel => exact ⟨HF, HB⟩
            · rcases r with _ | r
              · have hjN' : N ≤ j := by omega
                have HF := Aside0.mk (show RowsFin wr g n u13 tl tu te from by
                  have h : (acc, (at_ : Int), (0 : Int)) = (tl, tu, te) := htk
                  injection h with h4 h5
                  injection h5 with h5 h6
                  exact ⟨_, by rw [← h6]; exact hrd, fun _ => ⟨by rw [← h4]; exact how, by rw [← h5, List.length_drop, HN.out]; omega⟩, fun h => absurd h6.symm h⟩)
                clear hrd hjr hat hacc htk how HS
                go_wp2
                go_meet
                case rel => exact ⟨HF, HB⟩
              · have hjN' : j < N := by omega
                obtain ⟨A3, n3, c3, hg3, hc3, hr3, ho3⟩ := hrd
                have hc1 : wr.cell? ⟨g, 1, none⟩ = some (.int .i64 0) := cell_blk hg3 rfl
                have HR3 := Aside0.mk (And.intro hg3 (And.intro hr3 ho3))
                have hn3 : n3 ≤ 2000 := by have h1 := hr3.1; have h2 := HN.out; simp only [List.length_drop] at h1; omega
                have hbs3 := hB.drop at_
                obtain ⟨kk, hkk, hle, hpos⟩ := takeB_count (q := 5) hB HN.out hat
                have HCNT := Aside0.mk (And.intro hkk (And.intro hle hpos))
                obtain ⟨vs, hov, hvl, hel⟩ := how.len
                have HOV := Aside0.mk hov
                have HEL := Aside0.mk hel
                have HOW := Aside0.mk how
                have hvl2 : vs.length ≤ 2000 := by omega
                have HTK := Aside0.mk htk
                clear hg3 hr3 ho3 hkk hle hpos hov hel hvl how htk HS
                go_wp2_with (first
                  | (go_at_call 27; go_must (refine (bytes5_calls g A3 n3 c3 (xs.drop at_) 5 _ HR3.out.1 hc3 HR3.out.2.1 HR3.out.2.2 hbs3 (by omega) (by decide) (by decide)).mono ?_; rintro e w2 ⟨v2, rfl, ho, hrd, hch⟩; obtain ⟨A2', c2', rfl⟩ := own_slice ho; have HO2 := Aside0.mk (own_weaken ho (Nat.le_of_lt (blk_lt HR3.out.1))); have HB2 := Aside0.mk (Chg.trans_below HB.out hch (fun k hk => hk ▸ Nat.le_refl _) (Nat.le_of_lt (blk_lt HR3.out.1))); have HOV2 := Aside0.mk (own_chg HOV.out HR3.out.1 (by decide) hch); have HEL2 := Aside0.mk (⟨HEL.out.1, fun j v r hv hr => own_chg (HEL.out.2 j v r hv hr) HR3.out.1 (by decide) hch⟩ : Elems w2 g vs acc); have hgw := Nat.le_trans (Nat.le_of_lt (blk_lt HR3.out.1)) hch.size; have HRD2 := Aside0.mk hrd; clear ho hrd hch))
                  | (at_builtin; go_must (refine print_append (w0 := w2) g rfl (.tmp 72) (.tmp 75) 42 22 (.slice none 0 0) 24 rfl Try.underlying42 infoBs (by decide) (by decide) u13 vs _ rfl rfl rfl HOV2.out (Below.refl _ _) hgw (by omega) ?_; intro v3 w3' ho hb hg _; have HO3 := Aside0.mk (OwnL.push HOV2.out HEL2.out HO2.out ho hg); have HB3 := Aside0.mk (HB2.out.trans hb); have HRD3 := Aside0.mk (rd_grown HRD2.out HOV2.out hg); clear ho hb hg)))
                go_roundw
                case rel =>
                  refine ⟨j + 1, by go_num, by omega, ?_, HB3⟩
                  by_cases hE : (takeB (xs.drop at_) 5).2.2 = 0
                  · have h1 := (takeK_ok (k := r) (acc := acc) hE).symm.trans HTK.out
                    have h2 := HRD3.out
                    have h3 := HO3.out
                    have h4 := HCNT.out
                    rw [bytR_ok hE] at h2 h3
                    simp only at h2 h3
                    rw [h4.1, Int.toNat_natCast] at h1 h2
                    rw [List.drop_drop] at h2
                    exact ⟨.inr ⟨r, at_ + kk, _, h2, by omega, h4.2.1, by have := h4.2.2 hE; simp; omega, h1, h3⟩⟩
                  · have h1 := (takeK_bad (k := r) (acc := acc) hE).symm.trans HTK.out
                    have h2 := HRD3.out
                    rw [bytR_err hE] at h2
                    injection h1 with h5 h6
                    injection h6 with h6 h7
                    exact ⟨.inl ⟨_, _, h2, hE, h5.symm, h6.symm, h7.symm⟩⟩
                case measure => (simp [intOf]; try omega)
        case rest =>
          clear HS HB
          obtain ⟨HF, HBG⟩ := hcut
          have HB := Aside0.mk (via HB1.out hgs HGE.out HBG.out)
          have HX := Aside0.mk (HX1.out.via HGE.out HBG.out)
          clear HBG
          obtain ⟨bs3, hrd, hok, hbad⟩ := HF.out
          obtain ⟨A3, n3, c3, hg3, -, hr3, -⟩ := hrd
          have hc0 : wc.cell? ⟨g, 0, none⟩ = some (.slice A3 n3 c3) := cell_blk hg3 rfl
          have hc1 : wc.cell? ⟨g, 1, none⟩ = some (.int .i64 te) := cell_blk hg3 rfl
          have hn3 := hr3.1
          have hn3b := hr3.2.1
          clear hg3 hr3
          go_upto_if 81 with (fail)
          go_cut [] (fun w6 => Aside0 (Below w.heap.size w w6))
          case first =>
            by_cases hte : te = 0
            · obtain ⟨hoy, hlen⟩ := hok hte
              obtain ⟨A13, m13, c13, rfl, hm13, hr13⟩ := hoy.slice
              obtain ⟨A7', m7', c7', hv, hm7, hr7⟩ := HX.out.slice
              obtain ⟨rfl, rfl, rfl⟩ : A7 = A7' ∧ m7 = m7' ∧ c7 = c7' := by injection hv with h1 h2 h3; exact ⟨h1, h2, h3⟩
              obtain rfl : m13 = m7 := hm13.trans hm7.symm
              have HP := Aside0.mk (And.intro hr7 hr13)
              have hu : (tu != ((n : Int) - (n3 : Int))) = false := by simp; omega
              subst hte
              clear hok hbad hoy hlen hm13 hr13 hv hm7 hr7 hn3 HF
              go_wp2_with (go_at_call 28; go_must (refine (sameBytes_calls A7 A13 _ c7 c13 tl _ HP.out.1 HP.out.2).mono ?_; rintro e w7 ⟨rfl, hb⟩; have hd0 := (hb.cell (p := ⟨g, 0, none⟩) (World.block_lt_of_cell? _ _ hc0)).trans hc0; have HB7 := Aside0.mk (below_then HB.out HB.out.size hb); clear hb))
              go_meet
              case rel => exact HB7
            · obtain ⟨rfl, rfl⟩ := hbad hte
              have h1 : (te != 0) = true := by simp [hte]
              have h2 : (te != te) = false := by simp
              have h3 : m7 ≤ 0 := by rw [HM7.out]; simp
              clear hok hbad hte hn3 HF
              go_wp2
              go_meet
              case rel => exact HB
          case rest =>
            clear HF HB HX hc0 hc1 hok hbad hn3
            have HB := hcut
            clear hcut
            have HTOT := Aside0.mk (show ∀ k, (putRows (rows.take k)).length ≤ 1049076 from fun k => by
              have h1 := sum_take rows k
              have h2 := HSUM.out
              have h3 := putRows_sum (rows.take k) (by omega)
              have h4 : (rows.take k).length ≤ rows.length := by simp; omega
              have h5 := HM.out
              omega)
            have HP := Aside0.mk (putN_len10 (n := (m : Int)) (by omega))
            have hxn := HN.out
            have HE0 := Aside0.mk (own_empty wc w.heap.size 5 HB.out.size)
            have hba : Below wc.heap.size wc (wc.alloc (.cells #[] 5)) := (Below.refl _ _).alloc (Nat.le_refl _) _
            have HBa := Aside0.mk (below_then HB.out HB.out.size hba)
            have hwc := HB.out.size
            clear hba hxn
            go_wp2_with (first
              | (at_builtin; go_must (refine print_append_row (w0 := w) w.heap.size rfl (.tmp 117) (.tmp 118) 22 5 .u8 1 rfl Try.underlying22 infoU8 (by decide) (.slice (some ⟨wc.heap.size, 0, none⟩) 0 0) [] xs A n c rfl rfl HE0.out (HR.out.below HBa.out) HBa.out HBa.out.size (by have := HN.out; simp; omega) ?_; intro v8 w8 ho hb _ _; have HO8 := Aside0.mk ho; have HB8 := Aside0.mk hb; clear ho hb))
              | (go_at_call 15; go_must (refine (refPut_calls w.heap.size v8 xs (m : Int) _ HO8.out HB8.out.size (by omega) (by omega) (by have := HN.out; omega)).mono ?_; rintro e w9 ⟨v9, rfl, ho, hb⟩; have HO9 := Aside0.mk ho; have HB9 := Aside0.mk (HB8.out.trans (hb.below (own_base HO8.out) HB8.out.size)); clear ho hb)))
            go_loopw [15, 126] (fun u i wr => ∃ k : Nat, i = .int .i64 k ∧ k ≤ m ∧ Aside0 (OwnB wr w.heap.size u (xs ++ putN (m : Int) ++ putRows (rows.take k))) ∧ Aside0 (Below w.heap.size w wr)) (fun _ i _ => m - (intOf i).toNat)
            case atStart => exact ⟨0, rfl, Nat.zero_le _, ⟨by simpa [putRows] using HO9.out⟩, HB9⟩
            case round =>
              clear HO8 HB8 HO9 HB9 HE0 HBa HB
              obtain ⟨k, rfl, hk, HO, HB⟩ := hrel
              by_cases hlt : k < m
              · obtain ⟨ad, A', m', c', r, rfl, hcc, -, hr', hrk⟩ := (HR2.out.below HB.out).at_ k hlt
                have hold' : ∀ i, i < m' → ∃ ad, A' = some ad ∧ ad.block < w.heap.size := fun i hi => by
                  obtain ⟨ad0, A0, m0, c0, r0, e0, hcc0, -, hr0, -⟩ := HR2.out.at_ k hlt
                  obtain rfl := Option.some.inj e0
                  have hx := (HB.out.cell (World.block_lt_of_cell? w _ hcc0)).trans hcc0
                  rw [hcc] at hx
                  injection hx with hx
                  injection hx with h1 h2 h3
                  subst h1; subst h2
                  exact reads_blocks hr0 i hi
                have HR' := Aside0.mk (And.intro hr' hold')
                have HK := Aside0.mk hrk
                have HS2 := Aside0.mk (show rows.take (k + 1) = rows.take k ++ [r] by rw [List.take_add_one, HK.out]; rfl)
                have hsz : (xs ++ putN (m : Int) ++ putRows (rows.take k)).length + m' ≤ 140737488351232 := by
                  have h1 := HTOT.out (k + 1)
                  rw [HS2.out, putRows_snoc] at h1
                  have h2 := HP.out
                  have h3 := HN.out
                  have h4 := hr'.1
                  unfold putB at h1
                  simp only [List.length_append] at h1 ⊢
                  omega
                clear hr' hrk hold'
                go_wp2_with (first
                  | (go_at_call 22; go_must (refine (refPutBytes_calls w.heap.size _ A' m' c' _ r _ HO.out HB.out.size HR'.out.1 HR'.out.2 hsz).mono ?_; rintro e w2 ⟨v2, rfl, ho, hb⟩; have HO2 := Aside0.mk ho; have HB2 := Aside0.mk (HB.out.trans (hb.below (own_base HO.out) HB.out.size)); clear ho hb)))
                go_roundw
                case rel => exact ⟨k + 1, by go_num, by omega, ⟨by rw [HS2.out, putRows_snoc, ← List.append_assoc]; exact HO2.out⟩, HB2⟩
                case measure => simp [intOf]; omega
              · obtain rfl : k = m := by omega
                have hlt' : decide ((k : Int) < k) = false := by simp
                have ho3 : OwnB wr w.heap.size u15 (xs ++ putL rows) := by
                  have := HO.out
                  rw [List.take_of_length_le (by have := HM.out; omega)] at this
                  unfold putL
                  rw [HM.out, ← List.append_assoc]; exact this
                obtain ⟨A15, m15, c15, rfl, -, -, hr15⟩ := OwnB.reads ho3
                have HR15 := Aside0.mk hr15
                clear ho3 hr15 HO
                go_upto_region 27 with (fail)
                refine wl_region wr A A2 A15 n c k c2 m15 c15 xs rows 1049076 (HR.out.below HB.out) (HR2.out.below HB.out) HR15.out HTOT.out (by omega) ?_
                intro w10 _ _ hb10 _ _
                have HB10 := Aside0.mk (below_then HB.out HB.out.size hb10)
                clear hb10
                go_wp2
                go_ret
                exact ⟨rfl, HB10.out⟩
end Go.Proofs.Ytcgmfbefikpkbaa
