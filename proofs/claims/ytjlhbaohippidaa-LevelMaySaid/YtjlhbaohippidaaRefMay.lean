/-
  The walk of the reference's May.
-/
import Derived.Test.YtjlhbaohippidaaMayR
namespace Go.Proofs.Ytjlhbaohippidaa
open Go.RowKit Go.Proofs.YtjlhbaohippidaaW.PrintWords Go.RegionInvYtjlhbaohippidaa

set_option maxHeartbeats 4000000 in
theorem refMay_calls (A : Option Addr) (c : Nat) (l : Lv) (v : Int) (w : World) (hin : LvIn w w.heap.size A c l) :
    Calls Try.prog 12 #[lvV A c l, .int .i64 v] w fun e w' => e = .returned (.int .i64 (mayB v l)) ∧ Below w.heap.size w w' := by
  have HIN := Aside0.mk hin
  clear hin
  unfold lvV
  go_enter Try.func12, Try.ntmps12
  have hnew : NumAt ((w.alloc (.cells #[.int .i64 l.kind, .int .i64 l.num, .slice A l.kids.length c] 24 (0, 0))).alloc (.cells #[.int .i64 0] 3 (0, 0))) (w.heap.size + 1) 0 := by
    have := blk_new (w.alloc (.cells #[.int .i64 l.kind, .int .i64 l.num, .slice A l.kids.length c] 24 (0, 0))) (.cells #[.int .i64 0] 3 (0, 0))
    simpa [NumAt] using this
  have HNEW := Aside0.mk hnew
  clear hnew
  go_wp2_with (go_at_call 30; go_must (refine (ref_may v _ l (Nat.lt_succ_self _) A c 1 0 (w.heap.size + 1) w.heap.size _ (LvIn.stay HIN.out (below_alloc (below_alloc (Below.refl _ _) _) _)) HNEW.out (Nat.le_succ _) (by decide) (by decide) (by decide) (by decide)).mono ?_; rintro e w1 ⟨rfl, -, hc⟩; have HB := Aside0.mk (two_below hc); clear hc))
  go_ret
  exact ⟨rfl, HB.out⟩
end Go.Proofs.Ytjlhbaohippidaa
