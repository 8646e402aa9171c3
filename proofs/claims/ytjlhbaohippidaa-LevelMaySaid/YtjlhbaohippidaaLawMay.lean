/-
  The walk of the law LevelMay.
-/
import Derived.Test.YtjlhbaohippidaaMyR
namespace Go.Proofs.Ytjlhbaohippidaa
open Go.RowKit Go.Proofs.YtjlhbaohippidaaW.PrintWords Go.RegionInvYtjlhbaohippidaa Go.RegionEYtjlhbaohippidaa

set_option maxHeartbeats 4000000 in
theorem mayLaw_calls (A : Option Addr) (c : Nat) (l : Lv) (v : Int) (w : World) (hin : LvIn w w.heap.size A c l) :
    Calls Try.prog 3 #[lvV A c l, .int .i64 v] w fun e w' => e = .returned (.bool true) ∧ Below w.heap.size w w' := by
  have HIN := Aside0.mk hin
  clear hin
  unfold lvV
  have HB0 := Aside0.mk (show Below w.heap.size w (w.alloc (.cells #[.int .i64 l.kind, .int .i64 l.num, .slice A l.kids.length c] 24 (0, 0))) from below_alloc (Below.refl _ _) _)
  have HX0 := Aside0.mk (blk_new w (.cells #[.int .i64 l.kind, .int .i64 l.num, .slice A l.kids.length c] 24 (0, 0)))
  go_enter Try.func3, Try.ntmps3
  go_upto_region 1 with (fail)
  refine my_region _ w.heap.size A c l v HX0.out (LvIn.mono (LvIn.stay HIN.out HB0.out) HB0.out.size) ?_
  intro w9 hch
  have HBN := Aside0.mk (below_then HB0.out HB0.out.size (hch.below (fun _ h => h.elim False.elim False.elim) (Nat.le_refl _)))
  clear hch
  go_wp2
  go_ret
  exact ⟨rfl, HBN.out⟩
end Go.Proofs.Ytjlhbaohippidaa
