/-
  The walk of short.
-/
import Derived.Test.YtjlhbaohippidaaNfSR
namespace Go.Proofs.Ytjlhbaohippidaa
open Go.RowKit Go.Proofs.YtjlhbaohippidaaW.PrintWords Go.RegionInvYtjlhbaohippidaa Go.RegionEYtjlhbaohippidaa

/-! ### short -/
def trimTo (ks : List Int) : Nat → Nat
  | 0 => 0
  | j + 1 => if rd ks j < 0 then trimTo ks j else j + 1
def shortN (f : Nf) : Nf := (if f.2 ≠ [] ∧ f.1 ≤ maxL f.2 then 0 else f.1, f.2.take (trimTo f.2 f.2.length))
theorem IntsS.take {w : World} {S : Nat → Prop} {A : Option Addr} {n : Nat} {ks : List Int} (h : IntsS w S A n ks) {j : Nat} (hj : j ≤ n) : IntsS w S A j (ks.take j) := by
  refine ⟨⟨by simp; have := h.1.1; omega, by have := h.1.2.1; omega, fun h0 => ?_⟩, fun h0 => h.2 (by omega)⟩
  obtain ⟨ad, e, hc⟩ := h.1.2.2 (by omega)
  refine ⟨ad, e, fun i hi => ?_⟩
  rw [hc i (by omega)]
  simp [List.getD_eq_getElem?_getD, List.getElem?_take, hi]
/-- How long the row in a box is. -/
def lenAt (w : World) (g : Nat) : Nat := match w.cell? ⟨g, 1, none⟩ with | some (.slice _ n _) => n | _ => 0
theorem lenAt_eq {w : World} {g : Nat} {x : Value} {A : Option Addr} {n c : Nat} {t : TypeId} (h : w.heap[g]? = some (.cells #[x, .slice A n c] t (0, 0))) : lenAt w g = n := by
  unfold lenAt; rw [(row2 h).2.1]
theorem short_fin {w wr : World} {S : Nat → Prop} {A : Option Addr} {n j cap : Nat} {c c' : Int} {ks : List Int} (hc : (shortN (c, ks)).1 = c') (hn : ks.length = n) (ht : trimTo ks n = j) (hj : j ≤ n) (hcap : n ≤ cap) (hr : IntsS w S A n ks) (hb : Below w.heap.size w wr) :
    NfGot w S (shortN (c, ks)) (.returned (.agg #[.int .i64 c', .slice A j cap])) ((wr.setCell ⟨w.heap.size + 1, 0, none⟩ (.int .i64 c')).setCell ⟨w.heap.size + 1, 1, none⟩ (.slice A j cap)) := by
  have hb' := Chg.trans_below hb (chg_set2 wr (w.heap.size + 1) (.int .i64 c') (.slice A j cap)) (fun _ e => by omega) hb.size
  refine ⟨A, j, cap, by rw [hc], by omega, ?_, hb'⟩
  have e : (shortN (c, ks)).2 = ks.take j := by unfold shortN; simp only []; rw [hn, ht]
  rw [e]
  exact ((hr.take hj).later hb').mono fun _ h _ => .inl h
set_option maxHeartbeats 4000000 in
theorem short_calls (S : Nat → Prop) (A : Option Addr) (n cap : Nat) (c : Int) (ks : List Int) (w : World) (hr : IntsS w S A n ks) (hcap : n ≤ cap) :
    Calls Try.prog 38 #[.agg #[.int .i64 c, .slice A n cap]] w (NfGot w S (shortN (c, ks))) := by
  have HR := Aside0.mk hr
  have HN := Aside0.mk hr.1.1
  clear hr
  have hx1 := box0 w (.cells #[.int .i64 c, .slice A n cap] 52 (0, 0)) (.cells #[.int .i64 0, .slice none 0 0] 52 (0, 0))
  have hx2 := box1 w (.cells #[.int .i64 c, .slice A n cap] 52 (0, 0)) (.cells #[.int .i64 0, .slice none 0 0] 52 (0, 0))
  have hb2 : Below w.heap.size w ((w.alloc (.cells #[.int .i64 c, .slice A n cap] 52 (0, 0))).alloc (.cells #[.int .i64 0, .slice none 0 0] 52 (0, 0))) := below_alloc (below_alloc (Below.refl _ _) _) _
  have HX1 := Aside0.mk hx1
  have HX2 := Aside0.mk hx2
  have HB2 := Aside0.mk hb2
  clear hx1 hx2 hb2
  go_enter Try.func38, Try.ntmps38
  go_upto_region 1 with (fail)
  obtain ⟨W, hW⟩ : ∃ W, W = ((w.alloc (.cells #[.int .i64 c, .slice A n cap] 52 (0, 0))).alloc (.cells #[.int .i64 0, .slice none 0 0] 52 (0, 0))) := ⟨_, rfl⟩
  rw [← hW] at HX1 HX2 HB2 ⊢
  clear hW
  obtain ⟨d0, d1, e0, e1⟩ := row2 HX1.out
  have hn9 := HR.out.1.2.1
  go_cut [14] (fun v w2 => v = .bool (decide (ks ≠ [] ∧ c ≤ maxL ks)) ∧ w2.heap[w.heap.size]? = some (.cells #[.int .i64 c, .slice A n cap] 52 (0, 0)) ∧ w2.heap[w.heap.size + 1]? = some (.cells #[.int .i64 0, .slice none 0 0] 52 (0, 0)) ∧ Below w.heap.size w w2)
  case first =>
    by_cases hn : 0 < n
    · have HK := Aside0.mk (show ks ≠ [] by intro h; have := HN.out; rw [h] at this; simp at this; omega)
      refine sh1_region W w.heap.size c A n cap ks HX1.out ((HR.out.later HB2.out).mono fun _ _ _ => trivial) hn ?_
      intro w' hch
      go_wp2
      go_meet
      case rel => exact ⟨by simp [HK.out], hch.still HX1.out (fun h => h.elim id id), hch.still HX2.out (fun h => h.elim id id), Chg.trans_below HB2.out hch (fun _ h => h.elim False.elim False.elim) HB2.out.size⟩
    · obtain rfl : n = 0 := by omega
      have HK := Aside0.mk (show ks = [] from List.eq_nil_of_length_eq_zero HN.out)
      refine sh0_region W w.heap.size c A cap HX1.out ?_
      intro w' hch
      go_wp2
      go_meet
      case rel => exact ⟨by simp [HK.out], hch.still HX1.out (fun h => h.elim id id), hch.still HX2.out (fun h => h.elim id id), Chg.trans_below HB2.out hch (fun _ h => h.elim False.elim False.elim) HB2.out.size⟩
  case rest =>
    obtain ⟨rfl, hx1, hx2, hb2⟩ := hcut
    clear HX1 HX2 HB2 d0 d1 e0 e1
    have HX1 := Aside0.mk hx1
    have HX2 := Aside0.mk hx2
    have HB2 := Aside0.mk hb2
    clear hx1 hx2 hb2
    obtain ⟨d0, d1, e0, e1⟩ := row2 HX1.out
    obtain ⟨bb, hbb⟩ : ∃ bb, bb = decide (ks ≠ [] ∧ c ≤ maxL ks) := ⟨_, rfl⟩
    rw [← hbb]
    have HC' := Aside0.mk (show (shortN (c, ks)).1 = (if bb = true then 0 else c) by
      rw [hbb]; unfold shortN; simp)
    clear hbb
    go_upto_if 14 with (fail)
    go_cut [] (fun w3 => Aside0 (w3.heap[w.heap.size]? = some (.cells #[.int .i64 (if bb = true then 0 else c), .slice A n cap] 52 (0, 0))) ∧ Aside0 (w3.heap[w.heap.size + 1]? = some (.cells #[.int .i64 0, .slice none 0 0] 52 (0, 0))) ∧ Aside0 (Below w.heap.size w w3))
    case first =>
      cases bb with
      | true =>
        go_wp2
        go_meet
        have hch := chg_set wc w.heap.size 0 (.int .i64 0)
        case rel => exact ⟨⟨blk_put HX1.out 0 _ rfl⟩, ⟨(hch.block _ (blk_lt HX2.out) (by omega)).trans HX2.out⟩, ⟨Chg.trans_below HB2.out hch (fun _ e => by omega) HB2.out.size⟩⟩
      | false =>
        go_wp2
        go_meet
        case rel => exact ⟨HX1, HX2, HB2⟩
    case rest =>
      clear HX1 HX2 HB2 d0 d1 e0 e1
      obtain ⟨HX1, HX2, HB2⟩ := hcut
      obtain ⟨c', hc'⟩ : ∃ c', c' = (if bb = true then 0 else c) := ⟨_, rfl⟩
      rw [← hc'] at HX1 HC'
      clear hc'
      go_wp2
      go_loopw [] (fun wr => ∃ (j : Nat), j ≤ n ∧ Aside0 (trimTo ks n = trimTo ks j) ∧ Aside0 (wr.heap[w.heap.size]? = some (.cells #[.int .i64 c', .slice A j cap] 52 (0, 0))) ∧ Aside0 (wr.heap[w.heap.size + 1]? = some (.cells #[.int .i64 0, .slice none 0 0] 52 (0, 0))) ∧ Aside0 (Below w.heap.size w wr)) (fun wr => lenAt wr w.heap.size)
      case atStart => exact ⟨n, Nat.le_refl _, ⟨rfl⟩, HX1, HX2, HB2⟩
      case round =>
        clear HX1 HX2 HB2
        obtain ⟨j, hj, HT, HX1, HX2, HB2⟩ := hrel
        obtain ⟨d0, d1, e0, e1⟩ := row2 HX1.out
        obtain ⟨f0, f1, g0, g1⟩ := row2 HX2.out
        have HLA := Aside0.mk (lenAt_eq HX1.out)
        by_cases hj0 : 0 < j
        · obtain ⟨ad, rfl, hc⟩ := (HR.out.later HB2.out).1.at_ ((j - 1 : Nat) : Int) (by omega) (by omega)
          rw [Int.toNat_natCast] at hc
          obtain ⟨y, hy⟩ : ∃ y, y = rd ks ((j - 1 : Nat) : Int) := ⟨_, rfl⟩
          rw [← hy] at hc
          have HTT := Aside0.mk (show trimTo ks j = (if y < 0 then trimTo ks (j - 1) else j) by
            obtain ⟨i, rfl⟩ : ∃ i, j = i + 1 := ⟨j - 1, by omega⟩
            rw [trimTo, hy]; rfl)
          clear hy
          by_cases hy0 : y < 0
          · have HT' := Aside0.mk (show trimTo ks n = trimTo ks (j - 1) by rw [HT.out, HTT.out, if_pos hy0])
            go_wp2
            have hch := chg_set wr w.heap.size 1 (.slice (some ad) (j - 1) cap)
            have hx1 := blk_put HX1.out 1 (.slice (some ad) (j - 1) cap) rfl
            have hm := lenAt_eq hx1
            go_roundw
            case rel => exact ⟨j - 1, by omega, HT', ⟨hx1⟩, ⟨(hch.block _ (blk_lt HX2.out) (by omega)).trans HX2.out⟩, ⟨Chg.trans_below HB2.out hch (fun _ e => by omega) HB2.out.size⟩⟩
            case measure => rw [hm, HLA.out]; omega
          · have HT' := Aside0.mk (show trimTo ks n = j by rw [HT.out, HTT.out, if_neg hy0])
            go_wp2
            refine bodyPost_ret (results_c rfl _ _ (w.heap.size + 1) 52 #[.int .i64 c', .slice (some ad) j cap] (0, 0) _ rfl (set2 HX2.out) Try.underlying52 rfl (by kernel_rfl)) rfl ?_
            exact short_fin HC'.out HN.out HT'.out hj hcap HR.out HB2.out
        · obtain rfl : j = 0 := by omega
          have HT' := Aside0.mk (show trimTo ks n = 0 from HT.out)
          go_wp2
          refine bodyPost_ret (results_c rfl _ _ (w.heap.size + 1) 52 #[.int .i64 c', .slice A 0 cap] (0, 0) _ rfl (set2 HX2.out) Try.underlying52 rfl (by kernel_rfl)) rfl ?_
          exact short_fin HC'.out HN.out HT'.out hj hcap HR.out HB2.out
end Go.Proofs.Ytjlhbaohippidaa
