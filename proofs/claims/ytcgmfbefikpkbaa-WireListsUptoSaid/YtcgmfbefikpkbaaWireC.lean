/-
  The walks of PutBytes, of the program and of the reference.
-/
import Derived.Test.YtcgmfbefikpkbaaWireB
namespace Go.Proofs.Ytcgmfbefikpkbaa
open Go.RowKit Go.Proofs.YtcgmfbefikpkbaaW.PrintWords Go.RegionInvYtcgmfbefikpkbaa Go.Proofs.YtcgmfbefikpkbaaW.PrintMore

def putB (ys : List Int) : List Int := putN ys.length ++ ys
theorem putB_len (ys : List Int) (h : ys.length ≤ 18446744073709551615) : (putB ys).length ≤ ys.length + 10 := by
  unfold putB
  have := putN_len10 (n := (ys.length : Int)) (by omega)
  simp only [List.length_append]; omega
theorem putB_bytes {ys : List Int} (hB : Bytes ys) (h : ys.length ≤ 18446744073709551615) : Bytes (putB ys) := (putN_bytes10 (by omega) (by omega)).append hB

set_option maxHeartbeats 2000000 in
theorem putBytes_calls (A A2 : Option Addr) (n c m c2 : Nat) (xs ys : List Int) (w : World) (hr : ReadsInt w .u8 A n xs) (hr2 : ReadsInt w .u8 A2 m ys) (hl : n + m ≤ 140737488351232) :
    Calls Try.prog 21 #[.slice A n c, .slice A2 m c2] w fun e w' => ∃ v, e = .returned v ∧ OwnB w' w.heap.size v (xs ++ putB ys) ∧ Below w.heap.size w w' := by
  have HR := Aside0.mk hr
  have HR2 := Aside0.mk hr2
  have hN := hr.1
  have hM := hr2.1
  have HN := Aside0.mk hN
  have HM := Aside0.mk hM
  have hp := putN_len10 (n := (m : Int)) (by omega)
  clear hr hr2 hN hM
  go_enter Try.func21, Try.ntmps21
  go_wp2_with (first
    | (go_at_call 14; go_must (refine (put_calls A n c xs (m : Int) _ HR.out (by omega) (by omega) (by omega)).mono ?_; rintro e w1 ⟨v, rfl, ho, hb⟩; have HO := Aside0.mk ho; have HB := Aside0.mk hb; clear ho hb))
    | (at_builtin; go_must (refine print_append_row (w0 := w) w.heap.size rfl (.tmp 9) (.tmp 10) 22 5 .u8 1 rfl Try.underlying22 infoU8 (by decide) v (xs ++ putN (m : Int)) ys A2 m c2 rfl rfl HO.out (HR2.out.below HB.out) HB.out HB.out.size (by have := HN.out; simp only [List.length_append]; omega) ?_; intro v2 w2 ho hb _ _; have HO2 := Aside0.mk ho; have HB2 := Aside0.mk hb; clear ho hb)))
  go_ret
  refine ⟨_, rfl, ?_, HB2.out⟩
  unfold putB
  rw [HM.out, ← List.append_assoc]
  exact HO2.out

set_option maxHeartbeats 2000000 in
theorem refPutBytes_calls (base : Nat) (v : Value) (A2 : Option Addr) (m c2 : Nat) (xs ys : List Int) (w : World) (ho : OwnB w base v xs) (hb : base ≤ w.heap.size) (hr2 : ReadsInt w .u8 A2 m ys) (hold : ∀ i, i < m → ∃ ad, A2 = some ad ∧ ad.block < base) (hl : xs.length + m ≤ 140737488351232) :
    Calls Try.prog 22 #[v, .slice A2 m c2] w fun e w' => ∃ v', e = .returned v' ∧ OwnB w' base v' (xs ++ putB ys) ∧ Grew v v' w w' := by
  have HO := Aside0.mk ho
  have HR2 := Aside0.mk hr2
  have hM := hr2.1
  have HM := Aside0.mk hM
  have HH := Aside0.mk hold
  have hp := putN_len10 (n := (m : Int)) (by omega)
  clear hr2 hM ho hold
  go_enter Try.func22, Try.ntmps22
  go_wp2_with (first
    | (go_at_call 15; go_must (refine (refPut_calls base v xs (m : Int) _ HO.out hb (by omega) (by omega) (by omega)).mono ?_; rintro e w1 ⟨v1, rfl, ho, hb⟩; have HO1 := Aside0.mk ho; have HB1 := Aside0.mk hb; clear ho hb))
    | (at_builtin; go_must (refine print_append_row (w0 := w1) base rfl (.tmp 9) (.tmp 10) 22 5 .u8 1 rfl Try.underlying22 infoU8 (by decide) v1 (xs ++ putN (m : Int)) ys A2 m c2 rfl rfl HO1.out (reads_old HR2.out HH.out (HB1.out.below (own_base HO.out) hb)) (Below.refl _ _) (Nat.le_trans hb HB1.out.1.size) (by simp only [List.length_append]; omega) ?_; intro v2 w2 ho _ hg hat; have HO2 := Aside0.mk ho; have HB2 := Aside0.mk (HB1.out.trans (Grew.of_append hg hat)); clear ho hg hat)))
  go_ret
  refine ⟨_, rfl, ?_, HB2.out⟩
  unfold putB
  rw [HM.out, ← List.append_assoc]
  exact HO2.out
end Go.Proofs.Ytcgmfbefikpkbaa
