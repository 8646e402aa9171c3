/-
  The walk of slices.Max.
-/
import Derived.Test.YtjlhbaohippidaaNfG
namespace Go.Proofs.Ytjlhbaohippidaa
open Go.RowKit Go.Proofs.YtjlhbaohippidaaW.PrintWords Go.RegionInvYtjlhbaohippidaa Go.RegionEYtjlhbaohippidaa

def maxL : List Int → Int
  | [] => 0
  | x :: r => r.foldl max x
theorem maxL_take {ks : List Int} {j : Nat} (hj : 0 < j) (hlt : j < ks.length) : maxL (ks.take (j + 1)) = max (maxL (ks.take j)) (rd ks j) := by
  match ks, hj, hlt with
  | x :: r, hj, hlt =>
    obtain ⟨i, rfl⟩ : ∃ i, j = i + 1 := ⟨j - 1, by omega⟩
    simp only [List.length_cons] at hlt
    have hi : i < r.length := by omega
    simp only [List.take_succ_cons, maxL]
    rw [List.take_add_one, List.getElem?_eq_getElem hi, List.foldl_append]
    simp [rd, hi]
theorem maxL_one {ks : List Int} (h : 0 < ks.length) : maxL (ks.take 1) = rd ks 0 := by
  match ks, h with
  | x :: r, _ => simp [maxL, rd]
set_option maxHeartbeats 2000000 in
theorem smax_calls (A : Option Addr) (n cap : Nat) (ks : List Int) (w : World) (hr : ReadsInt w .i64 A n ks) (hn : 0 < n) :
    Calls Try.prog 55 #[.slice A n cap] w fun e w' => e = .returned (.int .i64 (maxL ks)) ∧ w' = w := by
  have HR := Aside0.mk hr
  have HL := Aside0.mk hr.1
  have hl9 := hr.2.1
  clear hr
  obtain ⟨ad, rfl, hc0⟩ := HR.out.at_ 0 (by omega) (by omega)
  simp only [Int.toNat_zero] at hc0
  rw [show ad.add 0 = ad from by simp [Addr.add]] at hc0
  have H1 := Aside0.mk (maxL_one (ks := ks) (by rw [HL.out]; exact hn))
  obtain ⟨x0, hx0⟩ : ∃ x0, x0 = rd ks 0 := ⟨_, rfl⟩
  rw [← hx0] at hc0 H1
  clear hx0
  go_enter Try.func55, Try.ntmps55
  go_wp2
  go_loopw [3, 4] (fun m i wr => ∃ (j : Nat), i = .int .i64 j ∧ 0 < j ∧ j ≤ n ∧ wr = w ∧ ∃ x : Int, m = .int .i64 x ∧ Aside0 (x = maxL (ks.take j))) (fun _ i _ => n - (intOf i).toNat)
  case atStart => exact ⟨1, rfl, by omega, by omega, rfl, x0, rfl, ⟨H1.out.symm⟩⟩
  case round =>
    obtain ⟨j, rfl, hj0, hj, rfl, x, rfl, HX⟩ := hrel
    by_cases hlt : j < n
    · obtain ⟨ad', e, hc⟩ := HR.out.at_ j (by omega) (by omega)
      obtain rfl := Option.some.inj e
      rw [Int.toNat_natCast] at hc
      have H2 := Aside0.mk (maxL_take (ks := ks) hj0 (by rw [HL.out]; exact hlt))
      obtain ⟨y, hy⟩ : ∃ y, y = rd ks j := ⟨_, rfl⟩
      rw [← hy] at hc H2
      clear hy
      go_wp2
      go_roundw
      case rel => exact ⟨j + 1, by go_num, by omega, by omega, (by first | rfl | trivial), _, rfl, ⟨by rw [H2.out, ← HX.out]; omega⟩⟩
      case measure => (simp [intOf]; try omega)
    · obtain rfl : j = n := by omega
      have hlt' : decide ((j : Int) < j) = false := by simp
      go_wp2
      go_ret
      have e : x = maxL ks := by rw [HX.out, List.take_of_length_le (by rw [HL.out]; exact Nat.le_refl _)]
      subst e
      exact ⟨rfl, rfl⟩
end Go.Proofs.Ytjlhbaohippidaa
