/-
  WireBytes: bytes with their length, any bytes, any bound: the walk.
-/
import Derived.Test.YtcgmfbefikpkbaaWireYR
namespace Go.Proofs.Ytcgmfbefikpkbaa
open Go.RowKit Go.Proofs.YtcgmfbefikpkbaaW.PrintWords Go.RegionInvYtcgmfbefikpkbaa

set_option maxRecDepth 100000 in
set_option maxHeartbeats 4000000 in
theorem bytes_calls (A A2 : Option Addr) (n c m c2 : Nat) (xs ys : List Int) (most : Int) (w : World) (hr : ReadsInt w .u8 A n xs) (hr2 : ReadsInt w .u8 A2 m ys) (hc : n ≤ c) (hB : Bytes xs) (hl : n + m ≤ 140737488351232) (hm0 : -9223372036854775808 ≤ most) (hm1 : most ≤ 9223372036854775807) :
    Calls Try.prog 5 #[.slice A n c, .slice A2 m c2, .int .i64 most] w fun e w' => e = .returned (.bool true) ∧ Below w.heap.size w w' := by
  have HR := Aside0.mk hr
  have HR2 := Aside0.mk hr2
  clear hr hr2
  go_enter Try.func5, Try.ntmps5
  go_upto_region 3 with (first
    | (go_at_call 19; go_must (refine (takeBytes_calls A n c xs most _ HR.out hc hB (by omega) hm0 hm1).mono ?_; rintro e w1 ⟨v, rfl, ho, hb⟩; obtain ⟨A7, m7, c7, rfl, -, -, hr7⟩ := OwnB.reads ho; have HR7 := Aside0.mk hr7; have HB7 := Aside0.mk hb; clear ho hb hr7))
    | (go_at_call 20; go_must (refine (refTakeBytes_calls A n c xs most _ (HR.out.below HB7.out) hc hB (by omega) hm0 hm1).mono ?_; rintro e w2 ⟨v, rfl, ho, hb⟩; obtain ⟨A10, m10, c10, rfl, -, -, hr10⟩ := OwnB.reads ho; have HR10 := Aside0.mk hr10; have HR7b := Aside0.mk (HR7.out.below hb); have HB10 := Aside0.mk (below_then HB7.out HB7.out.size hb); clear ho hb hr10)))
  refine wy_region w2 A A2 A7 A10 n c m c2 m7 c7 m10 c10 xs ys most (HR.out.below HB10.out) (HR2.out.below HB10.out) HR7b.out HR10.out hl ?_
  intro w3 _ _ _ _ _ _ hb3 _ _ _ _
  have HB3 := Aside0.mk (below_then HB10.out HB10.out.size hb3)
  clear hb3
  go_wp2
  go_ret
  exact ⟨rfl, HB3.out⟩
end Go.Proofs.Ytcgmfbefikpkbaa
