/-
  The walk of awake.
-/
import Derived.Test.YtjlhbaohippidaaNfN
namespace Go.Proofs.Ytjlhbaohippidaa
open Go.RowKit Go.Proofs.YtjlhbaohippidaaW.PrintWords Go.RegionInvYtjlhbaohippidaa Go.RegionEYtjlhbaohippidaa

theorem awake_val : nfP (mxP (.mk 1 3 []) (plP 1 (.mk 2 0 []))) = (3, [1]) := by kernel_rfl
set_option maxHeartbeats 4000000 in
theorem awake_calls (w : World) : Calls Try.prog 13 #[] w fun e w' => e = .returned (.bool true) ∧ Below w.heap.size w w' := by
  go_enter Try.func13, Try.ntmps13
  go_upto_region 2 with (first
    | (go_at_call 31; go_must (refine (num_calls (fun _ => True) 3 _).mono ?_; rintro e w1 ⟨A1, c1, rfl, hl1, hb⟩; have HL1 := Aside0.mk hl1; have HB1 := Aside0.mk hb; clear hl1 hb; simp only [lvV]))
    | (go_at_call 32; go_must (refine (var_calls (fun _ => True) 0 _).mono ?_; rintro e w2 ⟨A2, c2, rfl, hl2, hb⟩; have HL2 := Aside0.mk hl2; have HB2 := Aside0.mk (below_then HB1.out HB1.out.size hb); have HL12 := Aside0.mk (HL1.out.later hb); clear hl2 hb; simp only [lvV]))
    | (go_at_call 20; go_must (refine (plus_calls (fun _ => True) 1 A2 c2 (.mk 2 0 []) w2 (HL2.out.mono fun _ _ _ => trivial) (by decide) (by decide)).mono ?_; rintro e w3 ⟨A3, c3, rfl, hl3, hb⟩; have HL3 := Aside0.mk hl3; have HB3 := Aside0.mk (below_then HB2.out HB2.out.size hb); have HL13 := Aside0.mk (HL12.out.later hb); clear hl3 hb))
    | (go_at_call 17; go_must (refine (max_calls (fun _ => True) A1 A3 c1 c3 (.mk 1 3 []) (plP 1 (.mk 2 0 [])) w3 (HL13.out.mono fun _ _ _ => trivial) (HL3.out.mono fun _ _ _ => trivial)).mono ?_; rintro e w4 ⟨A4, c4, rfl, hl4, hb⟩; have HL4 := Aside0.mk hl4; have HB4 := Aside0.mk (below_then HB3.out HB3.out.size hb); clear hl4 hb))
    | (go_at_call 26; go_must (refine (norm_calls A4 c4 (mxP (.mk 1 3 []) (plP 1 (.mk 2 0 []))) w4 (LvS.all HL4.out)).mono ?_; rw [awake_val]; rintro e w5 ⟨A5, n5, c5, rfl, hcap5, hi5, hb⟩; have HI5 := Aside0.mk hi5; have HB5 := Aside0.mk (below_then HB4.out HB4.out.size hb); clear hcap5 hi5 hb)))
  obtain rfl : 1 = n5 := HI5.out.1.1
  obtain ⟨ad, rfl, hc⟩ := HI5.out.1.at_ 0 (by decide) (by decide)
  simp only [Int.toNat_zero] at hc
  rw [show ad.add 0 = ad from by simp [Addr.add], show rd [1] 0 = 1 from rfl] at hc
  go_wp2
  go_ret
  exact ⟨rfl, HB5.out⟩
end Go.Proofs.Ytjlhbaohippidaa
