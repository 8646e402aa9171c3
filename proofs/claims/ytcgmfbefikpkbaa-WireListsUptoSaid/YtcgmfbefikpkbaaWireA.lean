/-
  What every program must know of layer 2: PutInt(nil, -150), taken again.
-/
import Derived.Test.YtcgmfbefikpkbaaWireU
import Derived.Test.YtcgmfbefikpkbaaOps
namespace Go.Proofs.Ytcgmfbefikpkbaa
open Go.RowKit Go.Proofs.YtcgmfbefikpkbaaW.PrintWords Go.RegionInvYtcgmfbefikpkbaa

theorem zig150 : zig (-150) = 299 := by decide
theorem put299 : putN 299 = [171, 2] := by
  rw [putN_ge (by decide), putN_lt (by decide)]; decide
theorem take299 : takeN [171, 2] = (299, 2, 0) := by
  have := take_put (n := 299) [] (by decide) (by decide)
  rw [put299] at this; simpa using this
theorem zag299 : zag 299 = -150 := by decide

theorem reads_nil (w : World) (k : IntKind) : ReadsInt w k none 0 [] := ⟨rfl, by omega, fun h => absurd h (by omega)⟩

/-- b[:k] -/
theorem run_cut_to {A : Option Addr} {n c : Nat} (w : World) (k : Int) (h0 : 0 ≤ k) (h1 : k ≤ c) : (Instr.slice 22 (.slice A n c) none (some (.int .i64 k)) none).run Try.prog w = .ok (.slice A k.toNat c) w := by
  have hel : Try.prog.elem 22 = 5 := by kernel_rfl
  rw [run_slice_h w 22 A n c (by rw [hel]; exact Try.underlying22) .i64 k h0 h1, hel]
  obtain ⟨i, hi, hz⟩ := Option.map_eq_some_iff.1 infoU8
  have hs : i.size = 1 := by injection hz with _ hz; injection hz
  cases A <;> simp [sizeOf, typeInfo, hi, hs, sliced, Result.andThen, Addr.add]
theorem own_empty (w : World) (base : Nat) (e : TypeId) (hB : base ≤ w.heap.size) : (w.alloc (.cells #[] e)).ownsRow base e 1 (.slice (some ⟨w.heap.size, 0, none⟩) 0 0) 0 [] := by
  have := World.ownsRow_lit (base := base) (e := e) (size := 1) w #[] 0 hB (by simp [maxLen]) (by simp)
  simpa using this
set_option maxHeartbeats 1000000 in
theorem awake_calls (w : World) : Calls Try.prog 18 #[] w fun e w' => e = .returned (.bool true) ∧ Below w.heap.size w w' := by
  go_enter Try.func18, Try.ntmps18
  go_wp2_with fail
  refine (putInt_calls none 0 0 [] (-150) w (reads_nil _ _) (by decide) (by decide) (by decide)).mono ?_
  rintro e w1 ⟨v, rfl, ho, hb⟩
  rw [zig150, put299, List.nil_append] at ho
  obtain ⟨A, c, rfl, hr⟩ := own_reads ho
  have HR := Aside0.mk hr
  have HB := Aside0.mk hb
  clear ho hr hb
  go_wp2_with fail
  refine (takeInt_calls A 2 c [171, 2] w1 HR.out (by intro x hx; simp at hx; omega) (by decide)).mono ?_
  rintro e w2 ⟨rfl, rfl⟩
  rw [take299]
  simp only [zag299]
  go_wp2
  go_ret
  exact ⟨rfl, HB.out⟩
end Go.Proofs.Ytcgmfbefikpkbaa
