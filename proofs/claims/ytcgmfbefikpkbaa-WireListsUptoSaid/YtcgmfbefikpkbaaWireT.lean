/-
  The walks of numbers as bytes: Take, TakeInt, Put, PutInt, of the program and of the reference.
-/
import Derived.Test.YtcgmfbefikpkbaaProg
import Derived.Test.YtcgmfbefikpkbaaWireP
import Derived.Deep.DeepMust
namespace Go.Proofs.Ytcgmfbefikpkbaa
open Go.RowKit Go.Proofs.YtcgmfbefikpkbaaW.PrintWords

theorem infoU8 : (Try.prog.info? 5).map (fun i => (i.zero, i.size, i.bytes)) = some (some (.int .u8 0), 1, 1) := by kernel_rfl

/-- A value that is bytes of the call's own, from block 'base' on. -/
def OwnB (w : World) (base : Nat) (v : Value) (xs : List Int) : Prop := w.ownsRow base 5 1 v xs.length (nums .u8 xs)
theorem OwnB.reads {w : World} {base : Nat} {v : Value} {xs : List Int} (h : OwnB w base v xs) : ∃ A m c, v = .slice A m c ∧ m = xs.length ∧ m ≤ c ∧ ReadsInt w .u8 A m xs := by
  obtain ⟨A, c, rfl, hr⟩ := own_reads h
  exact ⟨A, _, c, rfl, rfl, own_le h, hr⟩
theorem cell9 {w : World} {ad : Addr} {v : Value} (h : w.cell? (ad.add 9) = some v) : w.cell? ⟨ad.block, ad.off + 9, none⟩ = some v := by
  rw [← h]; unfold Addr.add; simp
set_option maxHeartbeats 1000000 in
theorem take_calls (A : Option Addr) (n c : Nat) (xs : List Int) (w : World) (hr : ReadsInt w .u8 A n xs) (hB : Bytes xs) (hl : n ≤ 140737488355000) :
    Calls Try.prog 10 #[.slice A n c] w fun e w' => e = .returned (.tuple #[.int .u64 (takeN xs).1, .int .i64 (takeN xs).2.1, .int .i64 (takeN xs).2.2]) ∧ w' = w := by
  have HR := Aside0.mk hr
  have HN := Aside0.mk hr.1
  have HL := Aside0.mk (lead_le xs)
  clear hr
  go_enter Try.func10, Try.ntmps10
  go_upto_block 0 with (fail)
  go_cut [5] (fun v wc => v = .int .i64 (lead xs) ∧ wc = w)
  case first =>
    go_wp2
    go_loop [5] (fun v => ∃ k : Nat, v = .int .i64 k ∧ k ≤ n ∧ Aside0 (∀ j, j < k → 128 ≤ xs.getD j 0)) (fun v => n - (intOf v).toNat)
    case atStart => exact ⟨0, rfl, Nat.zero_le _, ⟨fun j hj => absurd hj (Nat.not_lt_zero _)⟩⟩
    case round =>
      obtain ⟨k, rfl, hk, HA⟩ := hrel
      by_cases hlt : k < n
      · have hlx : k < xs.length := by have := HN.out; omega
        have HL2 := Aside0.mk (lead_at hlx HA.out)
        clear hlx
        obtain ⟨ad, rfl, hc⟩ := HR.out.at_ k (by omega) (by omega)
        rw [rd_nat] at hc
        rw [Int.toNat_natCast] at hc
        by_cases hb : 128 ≤ xs.getD k 0
        · have hb' : decide (128 ≤ xs.getD k 0) = true := decide_eq_true hb
          have HB := Aside0.mk hb
          clear hb
          obtain ⟨z, hz⟩ : ∃ z, z = xs.getD k 0 := ⟨_, rfl⟩
          rw [← hz] at hc hb'
          clear hz
          go_wp2
          go_round
          case rel => exact ⟨k + 1, by go_num, by omega, ⟨fun j hj => by
            rcases Nat.lt_or_ge j k with h | h
            · exact HA.out j h
            · obtain rfl : j = k := by omega
              exact HB.out⟩⟩
          case measure => simp [intOf]; omega
        · have hb' : decide (128 ≤ xs.getD k 0) = false := decide_eq_false hb
          have HB := Aside0.mk (HL2.out.2 (by omega))
          clear hb
          obtain ⟨z, hz⟩ : ∃ z, z = xs.getD k 0 := ⟨_, rfl⟩
          rw [← hz] at hc hb'
          clear hz
          go_wp2
          go_meet
          case rel => exact ⟨by rw [HB.out], rfl⟩
      · have HE := Aside0.mk (lead_all (xs := xs) (fun j hj => HA.out j (by have := HN.out; omega)))
        have hlt' : decide ((k : Int) < n) = false := decide_eq_false (by omega)
        go_wp2
        go_meet
        case rel => exact ⟨by rw [HE.out, HN.out]; congr 2; omega, rfl⟩
  case rest =>
    obtain ⟨rfl, rfl⟩ := hcut
    go_upto_block 2 with (fail)
    go_cut [] (fun w2 => Aside0 (lead xs < n ∧ ¬ badN xs) ∧ w2 = wc)
    case first =>
     by_cases h1 : lead xs = n
     · have HE := Aside0.mk (takeN_short (xs := xs) (by rw [h1, HN.out]))
       have h1' : ((lead xs : Int) == (n : Int)) = true := by simp [h1]
       clear h1
       generalize lead xs = k at *
       go_wp2
       go_ret3
       exact ⟨by rw [HE.out]; rfl, rfl⟩
     · have h2 : lead xs < n := by have := HL.out; have := HN.out; omega
       have hne : lead xs ≠ xs.length := by rw [HN.out]; exact h1
       obtain ⟨ad, rfl, hc⟩ := HR.out.at_ (lead xs) (by omega) (by omega)
       rw [Int.toNat_natCast] at hc
       have hz := hB.at_ (lead xs)
       by_cases hb : badN xs
       · have HE := Aside0.mk (takeN_bad hne hb)
         have hb' := hb
         unfold badN at hb'
         clear hb
         have hk9 : lead xs = 9 → rd xs 9 = rd xs (lead xs : Int) := fun h => by rw [h]; rfl
         clear hne
         generalize lead xs = k at *
         obtain ⟨z, hzz⟩ : ∃ z, z = rd xs (k : Int) := ⟨_, rfl⟩
         rw [← hzz] at hc hz hb' hk9
         clear hzz
         have h1' : ((k : Int) == (n : Int)) = false := by simp; omega
         clear h1
         rcases Nat.lt_or_ge 9 k with h3 | h3
         · clear hb' hk9
           go_wp2
           go_ret3
           exact ⟨by rw [HE.out]; rfl, rfl⟩
         · have h7 : decide (9 < (k : Int)) = false := by simp; omega
           by_cases h4 : k = 9 ∧ 1 < z
           · obtain ⟨h4, h5⟩ := h4
             have h9 : ((k : Int) == 9) = true := by simp; omega
             have h10 : decide (1 < z) = true := decide_eq_true h5
             clear hb' hk9 h5 h4
             go_wp2
             go_ret3
             exact ⟨by rw [HE.out]; rfl, rfl⟩
           · have h6 : 0 < k ∧ z = 0 := by
               rcases hb' with h | ⟨h, h'⟩ | h
               · omega
               · rw [hk9 h] at h'; exact absurd ⟨h, h'⟩ h4
               · exact h
             obtain ⟨h6, rfl⟩ := h6
             have h12 : 0 < k := by omega
             clear hb' hk9 h4
             by_cases h8 : k = 9
             · have h9 : ((k : Int) == 9) = true := by simp; omega
               clear h8
               go_wp2
               go_ret3
               exact ⟨by rw [HE.out]; rfl, rfl⟩
             · have h9 : ((k : Int) == 9) = false := by simp; omega
               clear h8
               go_wp2
               go_ret3
               exact ⟨by rw [HE.out]; rfl, rfl⟩
       · have HQ := Aside0.mk (And.intro h2 hb)
         have hb' := hb
         unfold badN at hb'
         have hk9 : lead xs = 9 → rd xs 9 = rd xs (lead xs : Int) := fun h => by rw [h]; rfl
         have h3 : lead xs ≤ 9 := Nat.le_of_not_lt fun h => hb' (.inl h)
         have h4 : lead xs = 9 → rd xs (lead xs : Int) ≤ 1 := fun h => by
           rw [← hk9 h]
           exact Int.not_lt.1 fun h' => hb' (.inr (.inl ⟨h, h'⟩))
         have h5 : 0 < lead xs → rd xs (lead xs : Int) ≠ 0 := fun h h' => hb' (.inr (.inr ⟨h, h'⟩))
         clear hb' hb hk9 hne
         generalize lead xs = k at *
         have h1' : ((k : Int) == (n : Int)) = false := by simp; omega
         clear h1
         obtain ⟨z, hzz⟩ : ∃ z, z = rd xs (k : Int) := ⟨_, rfl⟩
         rw [← hzz] at hc hz h4 h5
         clear hzz
         have h7 : decide (9 < (k : Int)) = false := by simp; omega
         by_cases h8 : k = 9
         · have h9 : ((k : Int) == 9) = true := by simp; omega
           have h12 : 0 < k := by omega
           have h10 : decide (1 < z) = false := by have := h4 h8; simp; omega
           have h11 : (z == 0) = false := by have := h5 (by omega); simp; omega
           clear h4 h5 h8
           go_wp2
           go_meet
           case rel => exact ⟨HQ, rfl⟩
         · have h9 : ((k : Int) == 9) = false := by simp; omega
           clear h4
           by_cases h10 : 0 < k
           · have h11 : (z == 0) = false := by have := h5 h10; simp; omega
             clear h5 h8
             go_wp2
             go_meet
             case rel => exact ⟨HQ, rfl⟩
           · have h11 : decide (0 < (k : Int)) = false := by simp; omega
             clear h5 h8
             go_wp2
             go_meet
             case rel => exact ⟨HQ, rfl⟩
    case rest =>
     obtain ⟨HQ, rfl⟩ := hcut
     have HE := Aside0.mk (takeN_ok (xs := xs) (by have := HQ.out.1; have := HN.out; omega) HQ.out.2)
     have HS := Aside0.mk (numOf_small hB (by have := HQ.out.1; have := HN.out; omega) HQ.out.2)
     have h2 := HQ.out.1
     obtain ⟨k, hk⟩ : ∃ k, k = lead xs := ⟨_, rfl⟩
     rw [← hk] at HE HS h2 ⊢
     clear hk HQ HL
     go_wp2
     go_loop [6, 7] (fun u v => ∃ j : Nat, j ≤ k + 1 ∧ v = .int .i64 ((j : Int) - 1) ∧ u = .int .u64 (numOf ((xs.take (k + 1)).drop j))) (fun _ v => (intOf v + 1).toNat)
     case atStart => exact ⟨k + 1, by omega, by go_num, by rw [List.drop_of_length_le (by simp; omega)]; rfl⟩
     case round =>
       obtain ⟨j, hj, rfl, rfl⟩ := hrel
       rcases j with _ | j
       · go_wp2
         go_ret3
         exact ⟨by rw [HE.out]; rfl, rfl⟩
       · obtain ⟨ad, rfl, hc⟩ := HR.out.at_ j (by omega) (by omega)
         rw [Int.toNat_natCast] at hc
         have hz := hB.at_ (j : Int)
         have HD := Aside0.mk (numOf_step xs k j (by omega) (by have := HN.out; omega) HS.out)
         have hd := HD.out.1
         have hd0 := numOf_nonneg ((xs.take (k + 1)).drop (j + 1))
         obtain ⟨z, hzz⟩ : ∃ z, z = rd xs (j : Int) := ⟨_, rfl⟩
         rw [← hzz] at hc hz HD
         clear hzz
         obtain ⟨d, hdd⟩ : ∃ d, d = numOf ((xs.take (k + 1)).drop (j + 1)) := ⟨_, rfl⟩
         rw [← hdd] at hd hd0 HD ⊢
         clear hdd
         have e0 : ((j + 1 : Nat) : Int) - 1 = (j : Int) := by omega
         rw [e0]
         clear e0
         go_wp2
         rw [u8_and127 hz.1 hz.2, show IntKind.u64.wrap (z % 128) = z % 128 by simp [IntKind.wrap, IntKind.bits, IntKind.signed]; try omega, u64_or_add hd0 hd (by omega) (by omega)]
         refine ⟨⟨j, by omega, rfl, by rw [HD.out.2]⟩, by simp [intOf]⟩
end Go.Proofs.Ytcgmfbefikpkbaa
