/-
  Merged: RfT, RfPl, RfBo, RfNR, RfN, Sfm, Req, SeW, SeRl, SeWr, TSmR, LvIn, LvsIn, TmInT.
-/
import Derived.Deep.Slices
import Derived.ChangeArms
import Derived.Test.YtdboloabpjmgaaaMSame3
/-! RfT -/
namespace Go.Proofs.Ytdboloabpjmgaaa
open Go.RowKit Go.Proofs.YtdboloabpjmgaaaW.PrintWords Go.RegionInvYtdboloabpjmgaaa Go.RegionEYtdboloabpjmgaaa

def tdC (c : Int) (ks : List Int) : Int := ks.foldl (fun c k => if c ≤ k then 0 else c) c
theorem tdC_zero (ks : List Int) : tdC 0 ks = 0 := by
  unfold tdC
  induction ks with
  | nil => rfl
  | cons y r ih => rw [List.foldl_cons]; split <;> exact ih
theorem tdC_eq (c : Int) (ks : List Int) : tdC c ks = if ∃ x ∈ ks, c ≤ x then 0 else c := by
  induction ks with
  | nil => rw [if_neg (by rintro ⟨x, hx, -⟩; cases hx)]; rfl
  | cons y r ih =>
    have e : tdC c (y :: r) = tdC (if c ≤ y then 0 else c) r := rfl
    rw [e]
    by_cases h : c ≤ y
    · rw [if_pos h, tdC_zero, if_pos ⟨y, by simp, h⟩]
    · rw [if_neg h, ih]
      by_cases h2 : ∃ x ∈ r, c ≤ x
      · rw [if_pos h2, if_pos]
        obtain ⟨x, hx, h3⟩ := h2
        exact ⟨x, by simp [hx], h3⟩
      · rw [if_neg h2, if_neg]
        rintro ⟨x, hx, h3⟩
        rcases List.mem_cons.1 hx with rfl | hx
        · exact h h3
        · exact h2 ⟨x, hx, h3⟩
theorem tdC_next {c : Int} {ks : List Int} {j : Nat} {y : Int} (hj : j < ks.length) (hy : y = rd ks (j : Nat)) : tdC c (ks.take (j + 1)) = if tdC c (ks.take j) ≤ y then 0 else tdC c (ks.take j) := by
  rw [List.take_add_one, List.getElem?_eq_getElem hj]
  have : y = ks[j] := by rw [hy, rd_nat', List.getD_eq_getElem?_getD, List.getElem?_eq_getElem hj]; rfl
  subst this
  unfold tdC
  rw [List.foldl_append]
  rfl
theorem td_short {c : Int} {ks : List Int} (hc : 0 ≤ c) : (tdC c (ks.take (trimTo ks ks.length)), ks.take (trimTo ks ks.length)) = shortN (c, ks) := by
  unfold shortN
  simp only []
  congr 1
  rw [tdC_eq]
  have key : (∃ x ∈ ks.take (trimTo ks ks.length), c ≤ x) ↔ (ks ≠ [] ∧ c ≤ maxL ks) := by
    constructor
    · rintro ⟨x, hx, h⟩
      have hm := List.mem_of_mem_take hx
      exact ⟨(fun e => by rw [e] at hm; cases hm), (by have := maxL_ge x hm; omega)⟩
    · rintro ⟨h1, h2⟩
      obtain ⟨j, hj, hjm⟩ := List.getElem_of_mem (maxL_mem h1)
      have hr : rd ks (j : Nat) = maxL ks := by rw [rd_nat', List.getD_eq_getElem?_getD, List.getElem?_eq_getElem hj]; exact hjm
      have hlt : j < trimTo ks ks.length := by
        rcases Nat.lt_or_ge j (trimTo ks ks.length) with h | h
        · exact h
        · have := trim_neg ks ks.length j h hj; omega
      refine ⟨maxL ks, ?_, h2⟩
      rw [← hjm]
      exact List.mem_take_iff_getElem.2 ⟨j, by omega, rfl⟩
  by_cases h : ks ≠ [] ∧ c ≤ maxL ks
  · rw [if_pos (key.2 h), if_pos h]
  · rw [if_neg (fun h' => h (key.1 h')), if_neg h]
set_option maxHeartbeats 4000000 in
theorem tidy_calls (S : Nat → Prop) (A : Option Addr) (n cap : Nat) (c : Int) (ks : List Int) (w : World) (hr : IntsS w S A n ks) (hcap : n ≤ cap) (hc0 : 0 ≤ c) :
    Calls Try.prog 116 #[.agg #[.int .i64 c, .slice A n cap]] w (NfGot w S (shortN (c, ks))) := by
  have HR := Aside0.mk hr
  have HN := Aside0.mk hr.1.1
  have HC0 := Aside0.mk hc0
  clear hr hc0
  have hx1 := box0 w (.cells #[.int .i64 c, .slice A n cap] 86 (0, 0)) (.cells #[.int .i64 0, .slice none 0 0] 86 (0, 0))
  have hx2 := box1 w (.cells #[.int .i64 c, .slice A n cap] 86 (0, 0)) (.cells #[.int .i64 0, .slice none 0 0] 86 (0, 0))
  have hb2 : Below w.heap.size w ((w.alloc (.cells #[.int .i64 c, .slice A n cap] 86 (0, 0))).alloc (.cells #[.int .i64 0, .slice none 0 0] 86 (0, 0))) := below_alloc (below_alloc (Below.refl _ _) _) _
  have HX1 := Aside0.mk hx1
  have HX2 := Aside0.mk hx2
  have HB2 := Aside0.mk hb2
  clear hx1 hx2 hb2
  go_enter Try.func116, Try.ntmps116
  go_upto_block 0 with (fail)
  obtain ⟨W, hW⟩ : ∃ W, W = ((w.alloc (.cells #[.int .i64 c, .slice A n cap] 86 (0, 0))).alloc (.cells #[.int .i64 0, .slice none 0 0] 86 (0, 0))) := ⟨_, rfl⟩
  rw [← hW] at HX1 HX2 HB2 ⊢
  clear hW
  have hn9 := HR.out.1.2.1
  go_cut [] (fun wr => ∃ (j : Nat), j ≤ n ∧ Aside0 (trimTo ks n = j) ∧ Aside0 (wr.heap[w.heap.size]? = some (.cells #[.int .i64 c, .slice A j cap] 86 (0, 0))) ∧ Aside0 (wr.heap[w.heap.size + 1]? = some (.cells #[.int .i64 0, .slice none 0 0] 86 (0, 0))) ∧ Aside0 (Below w.heap.size w wr))
  case first =>
    go_wp2
    go_loopw [] (fun wr => ∃ (j : Nat), j ≤ n ∧ Aside0 (trimTo ks n = trimTo ks j) ∧ Aside0 (wr.heap[w.heap.size]? = some (.cells #[.int .i64 c, .slice A j cap] 86 (0, 0))) ∧ Aside0 (wr.heap[w.heap.size + 1]? = some (.cells #[.int .i64 0, .slice none 0 0] 86 (0, 0))) ∧ Aside0 (Below w.heap.size w wr)) (fun wr => lenAt wr w.heap.size)
    case atStart => exact ⟨n, Nat.le_refl _, ⟨rfl⟩, HX1, HX2, HB2⟩
    case round =>
      clear HX1 HX2 HB2
      obtain ⟨j, hj, HT, HX1, HX2, HB2⟩ := hrel
      obtain ⟨d0, d1, e0, e1⟩ := row2 HX1.out
      have HLA := Aside0.mk (lenAt_eq HX1.out)
      by_cases hj0 : 0 < j
      · obtain ⟨ad, rfl, hc⟩ := (HR.out.later HB2.out).1.at_ ((j - 1 : Nat) : Int) (by omega) (by omega)
        rw [Int.toNat_natCast] at hc
        obtain ⟨y, hy⟩ : ∃ y, y = rd ks ((j - 1 : Nat) : Int) := ⟨_, rfl⟩
        rw [← hy] at hc
        have HTT := Aside0.mk (show trimTo ks j = (if y < 0 then trimTo ks (j - 1) else j) by
          obtain ⟨i, rfl⟩ : ∃ i, j = i + 1 := ⟨j - 1, by omega⟩
          rw [trimTo, hy]; rfl)
        clear hy
        by_cases hy0 : y < 0
        · have HT' := Aside0.mk (show trimTo ks n = trimTo ks (j - 1) by rw [HT.out, HTT.out, if_pos hy0])
          go_wp2
          have hch := chg_set wr w.heap.size 1 (.slice (some ad) (j - 1) cap)
          have hx1 := blk_put HX1.out 1 (.slice (some ad) (j - 1) cap) rfl
          have hm := lenAt_eq hx1
          go_roundw
          case rel => exact ⟨j - 1, by omega, HT', ⟨hx1⟩, ⟨(hch.block _ (blk_lt HX2.out) (by omega)).trans HX2.out⟩, ⟨Chg.trans_below HB2.out hch (fun _ e => by omega) HB2.out.size⟩⟩
          case measure => rw [hm, HLA.out]; omega
        · have HT' := Aside0.mk (show trimTo ks n = j by rw [HT.out, HTT.out, if_neg hy0])
          go_wp2
          go_meet
          case rel => exact ⟨j, hj, HT', HX1, HX2, HB2⟩
      · obtain rfl : j = 0 := by omega
        have HT' := Aside0.mk (show trimTo ks n = 0 from HT.out)
        go_wp2
        go_meet
        case rel => exact ⟨0, hj, HT', HX1, HX2, HB2⟩
  case rest =>
    clear HX1 HX2 HB2
    obtain ⟨j, hj, HT, HX1, HX2, HB2⟩ := hcut
    obtain ⟨d0, d1, e0, e1⟩ := row2 HX1.out
    go_upto_block 2 with (fail)
    go_cut [] (fun wr => Aside0 (wr.heap[w.heap.size]? = some (.cells #[.int .i64 (tdC c (ks.take j)), .slice A j cap] 86 (0, 0))) ∧ Aside0 (wr.heap[w.heap.size + 1]? = some (.cells #[.int .i64 0, .slice none 0 0] 86 (0, 0))) ∧ Aside0 (Below w.heap.size w wr))
    case first =>
      clear d0 d1 e0 e1
      go_wp2
      go_loopw [31] (fun i wr => ∃ (k : Nat) (c' : Int), i = .int .i64 k ∧ k ≤ j ∧ Aside0 (c' = tdC c (ks.take k)) ∧ Aside0 (wr.heap[w.heap.size]? = some (.cells #[.int .i64 c', .slice A j cap] 86 (0, 0))) ∧ Aside0 (wr.heap[w.heap.size + 1]? = some (.cells #[.int .i64 0, .slice none 0 0] 86 (0, 0))) ∧ Aside0 (Below w.heap.size w wr)) (fun i _ => j - (intOf i).toNat)
      case atStart => exact ⟨0, c, rfl, Nat.zero_le _, ⟨rfl⟩, HX1, HX2, HB2⟩
      case round =>
        clear HX1 HX2 HB2
        obtain ⟨k, c', rfl, hk, HTD, HX1, HX2, HB2⟩ := hrel
        obtain ⟨d0, d1, e0, e1⟩ := row2 HX1.out
        by_cases hlt : k < j
        · obtain ⟨ad, rfl, hc⟩ := (HR.out.later HB2.out).1.at_ (k : Int) (by omega) (by omega)
          rw [Int.toNat_natCast] at hc
          obtain ⟨y, hy⟩ : ∃ y, y = rd ks (k : Int) := ⟨_, rfl⟩
          rw [← hy] at hc
          have HTN := Aside0.mk (tdC_next (c := c) (show k < ks.length by rw [HN.out]; omega) hy)
          clear hy
          by_cases hcy : c' ≤ y
          · have HT2 := Aside0.mk (show (0 : Int) = tdC c (ks.take (k + 1)) by rw [HTN.out, ← HTD.out, if_pos hcy])
            go_wp2
            have hch := chg_set wr w.heap.size 0 (.int .i64 0)
            have hx1 := blk_put HX1.out 0 (.int .i64 0) rfl
            go_roundw
            case rel => exact ⟨k + 1, 0, by go_num, by omega, HT2, ⟨hx1⟩, ⟨(hch.block _ (blk_lt HX2.out) (by omega)).trans HX2.out⟩, ⟨Chg.trans_below HB2.out hch (fun _ e => by omega) HB2.out.size⟩⟩
            case measure => (simp [intOf]; try omega)
          · have HT2 := Aside0.mk (show c' = tdC c (ks.take (k + 1)) by rw [HTN.out, ← HTD.out, if_neg hcy])
            go_wp2
            go_roundw
            case rel => exact ⟨k + 1, c', by go_num, by omega, HT2, HX1, HX2, HB2⟩
            case measure => (simp [intOf]; try omega)
        · obtain rfl : k = j := by omega
          have hlt' : decide ((k : Int) < k) = false := by simp
          go_wp2
          go_meet
          case rel => rw [← HTD.out]; exact ⟨HX1, HX2, HB2⟩
    case rest =>
      clear HX1 HX2 HB2 d0 d1 e0 e1
      obtain ⟨HX1, HX2, HB2⟩ := hcut
      have HE := Aside0.mk (show shortN (c, ks) = (tdC c (ks.take j), ks.take j) by have h := td_short (ks := ks) HC0.out; rw [HN.out, HT.out] at h; exact h.symm)
      obtain ⟨c', hc'⟩ : ∃ c', c' = tdC c (ks.take j) := ⟨_, rfl⟩
      rw [← hc'] at HX1 HE
      clear hc'
      obtain ⟨d0, d1, e0, e1⟩ := row2 HX1.out
      obtain ⟨f0, f1, g0, g1⟩ := row2 HX2.out
      go_wp2
      refine bodyPost_ret (results_c rfl _ _ (w.heap.size + 1) 86 #[.int .i64 c', .slice A j cap] (0, 0) _ rfl (set2 HX2.out) Try.underlying86 rfl (by kernel_rfl)) rfl ?_
      have hb' := Chg.trans_below HB2.out (chg_set2 wc (w.heap.size + 1) (.int .i64 c') (.slice A j cap)) (fun _ e => by omega) HB2.out.size
      refine ⟨A, j, cap, by rw [HE.out], by omega, ?_, hb'⟩
      rw [HE.out]
      exact ((HR.out.take hj).later hb').mono fun _ h _ => .inl h
end Go.Proofs.Ytdboloabpjmgaaa

/-! RfPl -/
namespace Go.Proofs.Ytdboloabpjmgaaa
open Go.RowKit Go.Proofs.YtdboloabpjmgaaaW.PrintWords Go.RegionInvYtdboloabpjmgaaa Go.RegionEYtdboloabpjmgaaa

structure MkF (w wr : World) (o : Nat) (x : Int) (V : Value) (ys : List Int) : Prop where
  box : wr.heap[o]? = some (.cells #[.int .i64 x, V] 86 (0, 0))
  row : wr.ownsRow (o + 1) 3 1 V ys.length (nums .i64 ys)
  bel : Below w.heap.size w wr
theorem MkF.grow {w wr w6 : World} {o : Nat} {x : Int} {V V6 : Value} {ys zs : List Int} (h : MkF w wr o x V ys) (ho : w.heap.size ≤ o) (ho6 : w6.ownsRow (o + 1) 3 1 V6 zs.length (nums .i64 zs)) (hg : wr.grownBy w6 V.ownBlock) :
    w6.heap[o]? = some (.cells #[.int .i64 x, V] 86 (0, 0)) ∧ (∀ (g : Nat) (ob : Obj), g ≤ o → wr.heap[g]? = some ob → w6.heap[g]? = some ob) ∧ MkF w (w6.setCell ⟨o, 1, none⟩ V6) o x V6 zs := by
  have far : ∀ k, k < o + 1 → some k ≠ V.ownBlock := fun k hk e => by have := own_base h.row k e.symm; omega
  have h1 : w6.heap[o]? = some (.cells #[.int .i64 x, V] 86 (0, 0)) := (hg.block _ (blk_lt h.box) (far _ (by omega))).trans h.box
  have hb : Below w.heap.size w w6 := ⟨hg.os.trans h.bel.os, hg.tape.trans h.bel.tape, hg.output.trans h.bel.output, Nat.le_trans h.bel.size hg.size, fun i hi => (hg.block i (Nat.lt_of_lt_of_le hi h.bel.size) (far i (by omega))).trans (h.bel.block i hi)⟩
  have hch := chg_set w6 o 1 V6
  refine ⟨h1, fun g ob hgo hgb => (hg.block _ (blk_lt hgb) (far _ (by omega))).trans hgb, ⟨blk_put h1 1 V6 rfl, ?_, Chg.trans_below hb hch (fun _ e => by omega) hb.size⟩⟩
  exact own_setCell ho6 (fun e => by have := own_base ho6 o e.symm; omega) _
set_option maxHeartbeats 4000000 in
theorem refPlus_calls (A : Option Addr) (n cap : Nat) (c k : Int) (ks : List Int) (w : World) (hr : ReadsInt w .i64 A n ks) (hc0 : 0 ≤ c) (hc1 : c ≤ 1099511627776) (hk0 : 0 ≤ k) (hk1 : k ≤ 1099511627776) (hks : ∀ x ∈ ks, -1 ≤ x ∧ x ≤ 1099511627776) (hl : n ≤ 1000000) :
    Calls Try.prog 92 #[.agg #[.int .i64 c, .slice A n cap], .int .i64 k] w (NfGot w (fun _ => False) (shortN (plusR k (c, ks)))) := by
  have HR := Aside0.mk hr
  have HN := Aside0.mk hr.1
  have HKS := Aside0.mk hks
  clear hr hks
  obtain ⟨W, hW⟩ : ∃ W, W = ((w.alloc (.cells #[.int .i64 c, .slice A n cap] 86 (0, 0))).alloc (.cells #[.int .i64 0, .slice none 0 0] 86 (0, 0))).alloc (.cells #[.int .i64 c, .slice none 0 0] 86 (0, 0)) := ⟨_, rfl⟩
  have hx1 : W.heap[w.heap.size]? = some (.cells #[.int .i64 c, .slice A n cap] 86 (0, 0)) := by rw [hW]; exact blk_alloc (box0 w _ _) _
  have hres : W.heap[w.heap.size + 1]? = some (.cells #[.int .i64 0, .slice none 0 0] 86 (0, 0)) := by rw [hW]; exact blk_alloc (box1 w _ _) _
  have hst : MkF w W (w.heap.size + 1 + 1) c (.slice none 0 0) [] := by
    rw [hW]
    refine ⟨?_, own_nil _ _ _ _, below_alloc (below_alloc (below_alloc (Below.refl _ _) _) _) _⟩
    have := blk_new ((w.alloc (.cells #[.int .i64 c, .slice A n cap] 86 (0, 0))).alloc (.cells #[.int .i64 0, .slice none 0 0] 86 (0, 0))) (.cells #[.int .i64 c, .slice none 0 0] 86 (0, 0))
    simpa using this
  have HX1 := Aside0.mk hx1
  have HRES := Aside0.mk hres
  have HST := Aside0.mk hst
  clear hx1 hres hst
  go_enter Try.func92, Try.ntmps92
  go_upto_region 3 with (fail)
  rw [← hW]
  clear hW
  obtain ⟨x, hx⟩ : ∃ x, x = (plusR k (c, ks)).1 := ⟨_, rfl⟩
  have HPE := Aside0.mk (show plusR k (c, ks) = (x, ks.map (addN k)) by rw [hx]; rfl)
  have HXX := Aside0.mk (show 0 ≤ x by have := hx; unfold plusR at this; simp only [] at this; split at this <;> omega)
  have HPX := Aside0.mk hx
  clear hx
  obtain ⟨a0, a1, -, -⟩ := row2 HX1.out
  obtain ⟨d0, d1, e0, e1⟩ := row2 HST.out.box
  go_cut [19] (fun v wr => v = .bool (decide (ks = [] ∨ 0 < c)) ∧ Aside0 (MkF w wr (w.heap.size + 1 + 1) c (.slice none 0 0) []) ∧ Aside0 (wr.heap[w.heap.size]? = some (.cells #[.int .i64 c, .slice A n cap] 86 (0, 0))) ∧ Aside0 (wr.heap[w.heap.size + 1]? = some (.cells #[.int .i64 0, .slice none 0 0] 86 (0, 0))))
  case first =>
    by_cases hn : n = 0
    · subst hn
      have HB := Aside0.mk (show decide (ks = [] ∨ 0 < c) = true from decide_eq_true (.inl (List.eq_nil_of_length_eq_zero HN.out)))
      go_wp2
      go_meet
      case rel => exact ⟨by rw [HB.out], HST, HX1, HRES⟩
    · have hn0 : ((n : Int) == 0) = false := by simp [hn]
      have HKN := Aside0.mk (show ks ≠ [] from fun e => hn (by rw [← HN.out, e]; rfl))
      by_cases hc : 0 < c
      · have HB := Aside0.mk (show decide (ks = [] ∨ 0 < c) = true from decide_eq_true (.inr hc))
        have hcd : decide (0 < c) = true := decide_eq_true hc
        clear hc
        go_wp2
        go_meet
        case rel => exact ⟨by rw [HB.out], HST, HX1, HRES⟩
      · have HB := Aside0.mk (show decide (ks = [] ∨ 0 < c) = false from decide_eq_false (fun h => h.elim HKN.out hc))
        have hcd : decide (0 < c) = false := decide_eq_false hc
        clear hc
        go_wp2
        go_meet
        case rel => exact ⟨by rw [HB.out], HST, HX1, HRES⟩
  case rest =>
  clear HX1 HRES HST a0 a1 d0 d1 e0 e1
  obtain ⟨rfl, HST, HX1, HRES⟩ := hcut
  obtain ⟨a0, a1, -, -⟩ := row2 HX1.out
  obtain ⟨d0, d1, e0, e1⟩ := row2 HST.out.box
  obtain ⟨bb, hbb⟩ : ∃ bb, bb = decide (ks = [] ∨ 0 < c) := ⟨_, rfl⟩
  rw [← hbb]
  have HPB := Aside0.mk (show x = if bb = true then min 1099511627776 (c + k) else c by
    rw [HPX.out, hbb]; unfold plusR; simp only [decide_eq_true_eq])
  clear hbb
  go_upto_if 19 with (fail)
  go_cut [] (fun wr => Aside0 (MkF w wr (w.heap.size + 1 + 1) x (.slice none 0 0) []) ∧ Aside0 (wr.heap[w.heap.size]? = some (.cells #[.int .i64 c, .slice A n cap] 86 (0, 0))) ∧ Aside0 (wr.heap[w.heap.size + 1]? = some (.cells #[.int .i64 0, .slice none 0 0] 86 (0, 0))))
  case first =>
    cases bb with
    | true =>
      by_cases hck : c + k ≤ 1099511627776
      · have HXE := Aside0.mk (show x = c + k by rw [HPB.out, if_pos rfl]; omega)
        go_wp2
        go_meet
        have hch := chg_set wc (w.heap.size + 1 + 1) 0 (.int .i64 (c + k))
        case rel => rw [HXE.out]; exact ⟨⟨⟨blk_put HST.out.box 0 _ rfl, own_nil _ _ _ _, Chg.trans_below HST.out.bel hch (fun _ e => by omega) HST.out.bel.size⟩⟩, ⟨(hch.block _ (blk_lt HX1.out) (by omega)).trans HX1.out⟩, ⟨(hch.block _ (blk_lt HRES.out) (by omega)).trans HRES.out⟩⟩
      · have HXE := Aside0.mk (show x = 1099511627776 by rw [HPB.out, if_pos rfl]; omega)
        go_wp2
        go_meet
        have hch := chg_set wc (w.heap.size + 1 + 1) 0 (.int .i64 (1099511627776))
        case rel => rw [HXE.out]; exact ⟨⟨⟨blk_put HST.out.box 0 _ rfl, own_nil _ _ _ _, Chg.trans_below HST.out.bel hch (fun _ e => by omega) HST.out.bel.size⟩⟩, ⟨(hch.block _ (blk_lt HX1.out) (by omega)).trans HX1.out⟩, ⟨(hch.block _ (blk_lt HRES.out) (by omega)).trans HRES.out⟩⟩
    | false =>
      have HXE := Aside0.mk (show x = c by rw [HPB.out]; rfl)
      go_wp2
      go_meet
      case rel => rw [HXE.out]; exact ⟨HST, HX1, HRES⟩
  case rest =>
    clear HX1 HRES HST a0 a1 d0 d1 e0 e1
    obtain ⟨HST, HX1, HRES⟩ := hcut
    obtain ⟨a0, a1, -, -⟩ := row2 HX1.out
    go_upto_block 0 with (fail)
    go_cut [] (fun wr => ∃ V, Aside0 (MkF w wr (w.heap.size + 1 + 1) x V (ks.map (addN k))) ∧ Aside0 (wr.heap[w.heap.size + 1]? = some (.cells #[.int .i64 0, .slice none 0 0] 86 (0, 0))))
    case first =>
      clear a0 a1
      go_wp2
      go_loopw [29] (fun i wr => ∃ (j : Nat) (V : Value), i = .int .i64 j ∧ j ≤ n ∧ Aside0 (MkF w wr (w.heap.size + 1 + 1) x V ((ks.take j).map (addN k))) ∧ Aside0 (wr.heap[w.heap.size + 1]? = some (.cells #[.int .i64 0, .slice none 0 0] 86 (0, 0)))) (fun i _ => n - (intOf i).toNat)
      case atStart => exact ⟨0, _, rfl, Nat.zero_le _, HST, HRES⟩
      case round =>
        clear HST HRES HX1
        obtain ⟨j, V, rfl, hj, HST, HRES⟩ := hrel
        obtain ⟨d0, d1, -, e1⟩ := row2 HST.out.box
        obtain ⟨A0, c0, rfl⟩ := own_slice HST.out.row
        obtain ⟨L, hL⟩ : ∃ L, L = ((ks.take j).map (addN k)).length := ⟨_, rfl⟩
        rw [← hL] at HST d1
        have HL := Aside0.mk hL
        have HLJ := Aside0.mk (show L = j by rw [hL]; simp; have := HN.out; omega)
        clear hL
        by_cases hlt : j < n
        · obtain ⟨ad, rfl, hcell⟩ := (HR.out.below HST.out.bel).at_ j (by omega) (by omega)
          rw [Int.toNat_natCast] at hcell
          obtain ⟨y, hy⟩ : ∃ y, y = rd ks (j : Int) := ⟨_, rfl⟩
          rw [← hy] at hcell
          have hmem : -1 ≤ y ∧ y ≤ 1099511627776 := by
            rw [hy, rd_nat', List.getD_eq_getElem?_getD, List.getElem?_eq_getElem (by rw [HN.out]; exact hlt)]
            exact HKS.out _ (List.getElem_mem _)
          have hget : ks[j]? = some y := by rw [hy, rd_nat', List.getD_eq_getElem?_getD, List.getElem?_eq_getElem (by rw [HN.out]; exact hlt)]; rfl
          have HT := Aside0.mk (show (ks.take (j + 1)).map (addN k) = (ks.take j).map (addN k) ++ [addN k y] by
            rw [List.take_add_one, hget, List.map_append]; rfl)
          clear hget
          have HLEN := Aside0.mk (show ((ks.take j).map (addN k)).length = j by rw [← HL.out]; exact HLJ.out)
          have hbase : w.heap.size + 1 + 1 + 1 ≤ wr.heap.size := blk_lt HST.out.box
          clear hy
          by_cases h0 : 0 ≤ y
          · have HA := Aside0.mk (show addN k y = (if 1099511627776 < y + k then 1099511627776 else y + k) by unfold addN; rw [if_pos h0]; omega)
            go_wp2_with (first
              | (at_builtin; go_must (refine print_append_num (w0 := wr) (w.heap.size + 1 + 1 + 1) rfl (.tmp 40) (.tmp 42) 84 3 .i64 8 rfl Try.underlying84 infoI64 (by decide) (.slice A0 L c0) ((ks.take j).map (addN k)) _ rfl rfl HST.out.row (Below.refl _ _) hbase (by rw [HLEN.out]; omega) ?_; intro v1 w1 ho _ hg _; obtain ⟨A6, L6, c6, rfl, -⟩ := own_slice' ho; have HG := Aside0.mk (HST.out.grow (Nat.le_of_lt (by omega)) ho hg); have HR6 := Aside0.mk (HG.out.2.1 _ _ (by omega) HRES.out); obtain ⟨d0, d1, -, e1⟩ := row2 HG.out.1; clear ho hg)))
            go_roundw
            case rel =>
              refine ⟨j + 1, .slice A6 L6 c6, by go_num, by omega, ⟨?_⟩, ⟨((chg_set w1 (w.heap.size + 1 + 1) 1 _).block _ (blk_lt HR6.out) (by omega)).trans HR6.out⟩⟩
              rw [HT.out, HA.out]
              exact HG.out.2.2
            case measure => (simp [intOf]; try omega)
          · have HA := Aside0.mk (show addN k y = y by unfold addN; rw [if_neg h0])
            go_wp2_with (first
              | (at_builtin; go_must (refine print_append_num (w0 := wr) (w.heap.size + 1 + 1 + 1) rfl (.tmp 40) (.tmp 42) 84 3 .i64 8 rfl Try.underlying84 infoI64 (by decide) (.slice A0 L c0) ((ks.take j).map (addN k)) _ rfl rfl HST.out.row (Below.refl _ _) hbase (by rw [HLEN.out]; omega) ?_; intro v1 w1 ho _ hg _; obtain ⟨A6, L6, c6, rfl, -⟩ := own_slice' ho; have HG := Aside0.mk (HST.out.grow (Nat.le_of_lt (by omega)) ho hg); have HR6 := Aside0.mk (HG.out.2.1 _ _ (by omega) HRES.out); obtain ⟨d0, d1, -, e1⟩ := row2 HG.out.1; clear ho hg)))
            go_roundw
            case rel =>
              refine ⟨j + 1, .slice A6 L6 c6, by go_num, by omega, ⟨?_⟩, ⟨((chg_set w1 (w.heap.size + 1 + 1) 1 _).block _ (blk_lt HR6.out) (by omega)).trans HR6.out⟩⟩
              rw [HT.out, HA.out]
              exact HG.out.2.2
            case measure => (simp [intOf]; try omega)
        · obtain rfl : j = n := by omega
          have hlt' : decide ((j : Int) < j) = false := by simp
          have HKT := Aside0.mk (show ks.take j = ks from List.take_of_length_le (by rw [HN.out]; exact Nat.le_refl _))
          go_wp2
          go_meet
          case rel => rw [HKT.out, HL.out, HKT.out] at HST; exact ⟨_, HST, HRES⟩
    case rest =>
      clear HST HX1 HRES a0 a1
      obtain ⟨V, HST, HRES⟩ := hcut
      obtain ⟨A9, c9, rfl, hcap, hints⟩ := IntsS.of_own HST.out.row
      obtain ⟨L, hL⟩ : ∃ L, L = (ks.map (addN k)).length := ⟨_, rfl⟩
      rw [← hL] at HST hcap hints
      have HI := Aside0.mk hints
      have HCAP := Aside0.mk hcap
      obtain ⟨d0, d1, -, -⟩ := row2 HST.out.box
      clear hL hints hcap
      go_wp2_with (first
        | (go_at_call 116; go_must (refine (tidy_calls (fun b => w.heap.size + 1 + 1 + 1 ≤ b) A9 L c9 x (ks.map (addN k)) _ HI.out HCAP.out HXX.out).mono ?_; rw [← HPE.out]; obtain ⟨f, hf⟩ : ∃ f, f = shortN (plusR k (c, ks)) := ⟨_, rfl⟩; rw [← hf]; have HF := Aside0.mk hf; rintro e w2 ⟨A2, n2, c2, rfl, hcap2, hi2, hb⟩; have HI2 := Aside0.mk hi2; have HCAP2 := Aside0.mk hcap2; have HZ2 := Aside0.mk (blk_lt HST.out.box); have HB2 := Aside0.mk (below_then HST.out.bel HST.out.bel.size hb); have HR2 := Aside0.mk (blk_below HRES.out hb); obtain ⟨f0, f1, g0, g1⟩ := row2 HR2.out; clear hb hi2 hcap2 hf)))
      have hch := chg_set2 w2 (w.heap.size + 1) (.int .i64 f.1) (.slice A2 n2 c2)
      refine bodyPost_ret (results_c rfl _ _ (w.heap.size + 1) 86 #[.int .i64 f.1, .slice A2 n2 c2] (0, 0) _ rfl (set2 HR2.out) Try.underlying86 rfl (by kernel_rfl)) rfl ?_
      rw [← HF.out]
      have hz2 := HZ2.out
      exact ⟨A2, n2, c2, rfl, HCAP2.out, (HI2.out.same fun b hb hz => hch.block b hz (by rcases hb with hb | hb <;> omega)).mono fun b hb _ => .inr (by rcases hb with hb | hb <;> omega), Chg.trans_below HB2.out hch (fun _ e => by omega) HB2.out.size⟩
end Go.Proofs.Ytdboloabpjmgaaa

/-! RfBo -/
namespace Go.Proofs.Ytdboloabpjmgaaa
open Go.RowKit Go.Proofs.YtdboloabpjmgaaaW.PrintWords Go.RegionInvYtdboloabpjmgaaa Go.RegionEYtdboloabpjmgaaa

structure OrF (w wr : World) (c c' : Int) (B B' : Value) : Prop where
  x2 : wr.heap[w.heap.size]? = some (.cells #[.int .i64 c, B] 86 (0, 0))
  x3 : wr.heap[w.heap.size + 1]? = some (.cells #[.int .i64 c', B'] 86 (0, 0))
  x4 : wr.heap[w.heap.size + 1 + 1]? = some (.cells #[.int .i64 0, .slice none 0 0] 86 (0, 0))
theorem orK_all {f g : Nf} : orN f g = (max f.1 g.1, orK f.2 g.2 (max f.2.length g.2.length)) := rfl
set_option maxHeartbeats 8000000 in
theorem refBoth_calls (A A' : Option Addr) (n cap n' cap' : Nat) (c c' : Int) (ks ks' : List Int) (w : World) (hr : ReadsInt w .i64 A n ks) (hr' : ReadsInt w .i64 A' n' ks') (hc0 : 0 ≤ c) (hks : ∀ x ∈ ks, -1 ≤ x ∧ x ≤ 1099511627776) (hks' : ∀ x ∈ ks', -1 ≤ x ∧ x ≤ 1099511627776) (hl : n ≤ 1000000) (hl' : n' ≤ 1000000) :
    Calls Try.prog 91 #[.agg #[.int .i64 c, .slice A n cap], .agg #[.int .i64 c', .slice A' n' cap']] w (NfGot w (fun _ => False) (shortN (orN (c, ks) (c', ks')))) := by
  have HR := Aside0.mk hr
  have HR' := Aside0.mk hr'
  have HN := Aside0.mk hr.1
  have HN' := Aside0.mk hr'.1
  have HKS := Aside0.mk hks
  have HKS' := Aside0.mk hks'
  clear hr hr' hks hks'
  go_enter Try.func91, Try.ntmps91
  go_upto_region 2 with (fail)
  obtain ⟨x, hx⟩ : ∃ x, x = (if c < c' then c' else c) := ⟨_, rfl⟩
  rw [← hx]
  have HXE := Aside0.mk (show x = max c c' by rw [hx]; omega)
  have HXX := Aside0.mk (show 0 ≤ x by rw [hx]; split <;> omega)
  clear hx
  go_upto_block 0 with (fail)
  obtain ⟨W, hW⟩ : ∃ W, W = ((((w.alloc (.cells #[.int .i64 c, .slice A n cap] 86 (0, 0))).alloc (.cells #[.int .i64 c', .slice A' n' cap'] 86 (0, 0))).alloc (.cells #[.int .i64 0, .slice none 0 0] 86 (0, 0))).alloc (.cells #[.int .i64 x, .slice none 0 0] 86 (0, 0))) := ⟨_, rfl⟩
  have hst : MkF w W (w.heap.size + 1 + 1 + 1) x (.slice none 0 0) [] := by
    rw [hW]
    refine ⟨?_, own_nil _ _ _ _, below_alloc (below_alloc (below_alloc (below_alloc (Below.refl _ _) _) _) _) _⟩
    have := blk_new (((w.alloc (.cells #[.int .i64 c, .slice A n cap] 86 (0, 0))).alloc (.cells #[.int .i64 c', .slice A' n' cap'] 86 (0, 0))).alloc (.cells #[.int .i64 0, .slice none 0 0] 86 (0, 0))) (.cells #[.int .i64 x, .slice none 0 0] 86 (0, 0))
    simpa using this
  have hres : OrF w W c c' (.slice A n cap) (.slice A' n' cap') := by
    rw [hW]
    refine ⟨blk_alloc (blk_alloc (box0 _ _ _) _) _, blk_alloc (blk_alloc (box1 _ _ _) _) _, blk_alloc ?_ _⟩
    have := blk_new ((w.alloc (.cells #[.int .i64 c, .slice A n cap] 86 (0, 0))).alloc (.cells #[.int .i64 c', .slice A' n' cap'] 86 (0, 0))) (.cells #[.int .i64 0, .slice none 0 0] 86 (0, 0))
    simpa using this
  have HST := Aside0.mk hst
  have HRES := Aside0.mk hres
  rw [← hW]
  clear hst hres hW
  obtain ⟨m, hm⟩ : ∃ m : Nat, (m : Int) = (if n < n' then (n' : Int) else n) := ⟨max n n', by omega⟩
  rw [← hm]
  have HM := Aside0.mk (show m = max ks.length ks'.length by rw [HN.out, HN'.out]; omega)
  have hmn : m = max n n' := by omega
  have HMN := Aside0.mk hmn
  have hml : m ≤ 1000000 := by omega
  clear hm hmn
  go_cut [] (fun wr => ∃ V, Aside0 (MkF w wr (w.heap.size + 1 + 1 + 1) x V (orK ks ks' m)) ∧ Aside0 (OrF w wr c c' (.slice A n cap) (.slice A' n' cap')))
  case first =>
    go_wp2
    go_loopw [21] (fun i wr => ∃ (j : Nat) (V : Value), i = .int .i64 j ∧ j ≤ m ∧ Aside0 (MkF w wr (w.heap.size + 1 + 1 + 1) x V (orK ks ks' j)) ∧ Aside0 (OrF w wr c c' (.slice A n cap) (.slice A' n' cap'))) (fun i _ => m - (intOf i).toNat)
    case atStart => exact ⟨0, _, rfl, Nat.zero_le _, HST, HRES⟩
    case round =>
      clear HST HRES
      obtain ⟨j, V, rfl, hj, HST, HRES⟩ := hrel
      by_cases hlt : j < m
      · obtain ⟨d0, d1, -, e1⟩ := row2 HST.out.box
        obtain ⟨a0, a1, -, -⟩ := row2 HRES.out.x2
        obtain ⟨b0, b1, -, -⟩ := row2 HRES.out.x3
        obtain ⟨A0, c0, rfl⟩ := own_slice HST.out.row
        obtain ⟨L, hL⟩ : ∃ L, L = (orK ks ks' j).length := ⟨_, rfl⟩
        rw [← hL] at HST d1
        have HLJ := Aside0.mk (show L = j by rw [hL, orK_len])
        have HLEN := Aside0.mk (show (orK ks ks' j).length = j from orK_len _ _ _)
        have hbase : w.heap.size + 1 + 1 + 1 + 1 ≤ wr.heap.size := blk_lt HST.out.box
        have HT := Aside0.mk (orK_succ ks ks' j)
        clear hL
        by_cases h1 : j < n
        · obtain ⟨p, rfl, hc1⟩ := (HR.out.below HST.out.bel).at_ j (by omega) (by omega)
          rw [Int.toNat_natCast] at hc1
          obtain ⟨y, hy⟩ : ∃ y, y = rd ks (j : Int) := ⟨_, rfl⟩
          rw [← hy] at hc1
          have HAy := Aside0.mk (show atP ks j = y by rw [hy]; exact atP_lt (by rw [HN.out]; exact h1))
          have HMy := Aside0.mk (show -1 ≤ y ∧ y ≤ 1099511627776 by rw [hy, rd_nat', List.getD_eq_getElem?_getD, List.getElem?_eq_getElem (by rw [HN.out]; exact h1)]; exact HKS.out _ (List.getElem_mem _))
          clear hy
          by_cases h2 : j < n'
          · obtain ⟨p', rfl, hc2⟩ := (HR'.out.below HST.out.bel).at_ j (by omega) (by omega)
            rw [Int.toNat_natCast] at hc2
            obtain ⟨z, hz⟩ : ∃ z, z = rd ks' (j : Int) := ⟨_, rfl⟩
            rw [← hz] at hc2
            have HAz := Aside0.mk (show atP ks' j = z by rw [hz]; exact atP_lt (by rw [HN'.out]; exact h2))
            have HMz := Aside0.mk (show -1 ≤ z ∧ z ≤ 1099511627776 by rw [hz, rd_nat', List.getD_eq_getElem?_getD, List.getElem?_eq_getElem (by rw [HN'.out]; exact h2)]; exact HKS'.out _ (List.getElem_mem _))
            clear hz
            have HE := Aside0.mk (show max (atP ks j) (atP ks' j) = (if y < z then z else y) by rw [HAy.out, HAz.out]; omega)
            go_wp2_with (first
              | (at_builtin; go_must (refine print_append_num (w0 := wr) (w.heap.size + 1 + 1 + 1 + 1) rfl (.tmp 47) (.tmp 49) 84 3 .i64 8 rfl Try.underlying84 infoI64 (by decide) (.slice A0 L c0) (orK ks ks' j) _ rfl rfl (by have h := HST.out.row; rw [HLJ.out, HLEN.out] at h; rw [HLJ.out, HLEN.out]; exact h) (Below.refl _ _) hbase (by rw [HLEN.out]; omega) ?_; intro v1 w1 ho _ hg _; obtain ⟨A6, L6, c6, rfl, -⟩ := own_slice' ho; have HG := Aside0.mk (HST.out.grow (Nat.le_of_lt (by omega)) ho hg); have HR6 := Aside0.mk (show OrF w w1 c c' _ _ from ⟨HG.out.2.1 _ _ (by omega) HRES.out.x2, HG.out.2.1 _ _ (by omega) HRES.out.x3, HG.out.2.1 _ _ (by omega) HRES.out.x4⟩); obtain ⟨d0, d1, -, e1⟩ := row2 HG.out.1; clear ho hg)))
            go_roundw
            case rel =>
              have hch := chg_set w1 (w.heap.size + 1 + 1 + 1) 1 (.slice A6 L6 c6)
              refine ⟨j + 1, .slice A6 L6 c6, by go_num, by omega, ⟨?_⟩, ⟨⟨(hch.block _ (blk_lt HR6.out.x2) (by omega)).trans HR6.out.x2, (hch.block _ (blk_lt HR6.out.x3) (by omega)).trans HR6.out.x3, (hch.block _ (blk_lt HR6.out.x4) (by omega)).trans HR6.out.x4⟩⟩⟩
              rw [HT.out, HE.out]
              exact HG.out.2.2
            case measure => (simp [intOf]; try omega)
          · have HE := Aside0.mk (show max (atP ks j) (atP ks' j) = y by rw [HAy.out, atP_beyond (by rw [HN'.out]; omega)]; have := HMy.out; omega)
            go_wp2_with (first
              | (at_builtin; go_must (refine print_append_num (w0 := wr) (w.heap.size + 1 + 1 + 1 + 1) rfl (.tmp 47) (.tmp 49) 84 3 .i64 8 rfl Try.underlying84 infoI64 (by decide) (.slice A0 L c0) (orK ks ks' j) _ rfl rfl (by have h := HST.out.row; rw [HLJ.out, HLEN.out] at h; rw [HLJ.out, HLEN.out]; exact h) (Below.refl _ _) hbase (by rw [HLEN.out]; omega) ?_; intro v1 w1 ho _ hg _; obtain ⟨A6, L6, c6, rfl, -⟩ := own_slice' ho; have HG := Aside0.mk (HST.out.grow (Nat.le_of_lt (by omega)) ho hg); have HR6 := Aside0.mk (show OrF w w1 c c' _ _ from ⟨HG.out.2.1 _ _ (by omega) HRES.out.x2, HG.out.2.1 _ _ (by omega) HRES.out.x3, HG.out.2.1 _ _ (by omega) HRES.out.x4⟩); obtain ⟨d0, d1, -, e1⟩ := row2 HG.out.1; clear ho hg)))
            go_roundw
            case rel =>
              have hch := chg_set w1 (w.heap.size + 1 + 1 + 1) 1 (.slice A6 L6 c6)
              refine ⟨j + 1, .slice A6 L6 c6, by go_num, by omega, ⟨?_⟩, ⟨⟨(hch.block _ (blk_lt HR6.out.x2) (by omega)).trans HR6.out.x2, (hch.block _ (blk_lt HR6.out.x3) (by omega)).trans HR6.out.x3, (hch.block _ (blk_lt HR6.out.x4) (by omega)).trans HR6.out.x4⟩⟩⟩
              rw [HT.out, HE.out]
              exact HG.out.2.2
            case measure => (simp [intOf]; try omega)
        · have h2 : j < n' := by have := HMN.out; omega
          obtain ⟨p', rfl, hc2⟩ := (HR'.out.below HST.out.bel).at_ j (by omega) (by omega)
          rw [Int.toNat_natCast] at hc2
          obtain ⟨z, hz⟩ : ∃ z, z = rd ks' (j : Int) := ⟨_, rfl⟩
          rw [← hz] at hc2
          have HAz := Aside0.mk (show atP ks' j = z by rw [hz]; exact atP_lt (by rw [HN'.out]; exact h2))
          have HMz := Aside0.mk (show -1 ≤ z ∧ z ≤ 1099511627776 by rw [hz, rd_nat', List.getD_eq_getElem?_getD, List.getElem?_eq_getElem (by rw [HN'.out]; exact h2)]; exact HKS'.out _ (List.getElem_mem _))
          clear hz
          have HE := Aside0.mk (show max (atP ks j) (atP ks' j) = (if -1 < z then z else -1) by rw [atP_beyond (by rw [HN.out]; omega), HAz.out]; omega)
          go_wp2_with (first
            | (at_builtin; go_must (refine print_append_num (w0 := wr) (w.heap.size + 1 + 1 + 1 + 1) rfl (.tmp 47) (.tmp 49) 84 3 .i64 8 rfl Try.underlying84 infoI64 (by decide) (.slice A0 L c0) (orK ks ks' j) _ rfl rfl (by have h := HST.out.row; rw [HLJ.out, HLEN.out] at h; rw [HLJ.out, HLEN.out]; exact h) (Below.refl _ _) hbase (by rw [HLEN.out]; omega) ?_; intro v1 w1 ho _ hg _; obtain ⟨A6, L6, c6, rfl, -⟩ := own_slice' ho; have HG := Aside0.mk (HST.out.grow (Nat.le_of_lt (by omega)) ho hg); have HR6 := Aside0.mk (show OrF w w1 c c' _ _ from ⟨HG.out.2.1 _ _ (by omega) HRES.out.x2, HG.out.2.1 _ _ (by omega) HRES.out.x3, HG.out.2.1 _ _ (by omega) HRES.out.x4⟩); obtain ⟨d0, d1, -, e1⟩ := row2 HG.out.1; clear ho hg)))
          go_roundw
          case rel =>
            have hch := chg_set w1 (w.heap.size + 1 + 1 + 1) 1 (.slice A6 L6 c6)
            refine ⟨j + 1, .slice A6 L6 c6, by go_num, by omega, ⟨?_⟩, ⟨⟨(hch.block _ (blk_lt HR6.out.x2) (by omega)).trans HR6.out.x2, (hch.block _ (blk_lt HR6.out.x3) (by omega)).trans HR6.out.x3, (hch.block _ (blk_lt HR6.out.x4) (by omega)).trans HR6.out.x4⟩⟩⟩
            rw [HT.out, HE.out]
            exact HG.out.2.2
          case measure => (simp [intOf]; try omega)
      · obtain rfl : j = m := by omega
        have hlt' : decide ((j : Int) < j) = false := by simp
        go_wp2
        go_meet
        case rel => exact ⟨_, HST, HRES⟩
  case rest =>
    clear HST HRES
    obtain ⟨V, HST, HRES⟩ := hcut
    obtain ⟨A9, c9, rfl, hcap, hints⟩ := IntsS.of_own HST.out.row
    obtain ⟨L, hL⟩ : ∃ L, L = (orK ks ks' m).length := ⟨_, rfl⟩
    rw [← hL] at HST hcap hints
    have HI := Aside0.mk hints
    have HCAP := Aside0.mk hcap
    have HPE := Aside0.mk (show orN (c, ks) (c', ks') = (x, orK ks ks' m) by rw [orK_all, HM.out, HXE.out])
    obtain ⟨d0, d1, -, -⟩ := row2 HST.out.box
    clear hL hints hcap
    go_wp2_with (first
      | (go_at_call 116; go_must (refine (tidy_calls (fun b => w.heap.size + 1 + 1 + 1 + 1 ≤ b) A9 L c9 x (orK ks ks' m) _ HI.out HCAP.out HXX.out).mono ?_; rw [← HPE.out]; obtain ⟨f, hf⟩ : ∃ f, f = shortN (orN (c, ks) (c', ks')) := ⟨_, rfl⟩; rw [← hf]; have HF := Aside0.mk hf; rintro e w2 ⟨A2, n2, c2, rfl, hcap2, hi2, hb⟩; have HI2 := Aside0.mk hi2; have HCAP2 := Aside0.mk hcap2; have HZ2 := Aside0.mk (blk_lt HST.out.box); have HB2 := Aside0.mk (below_then HST.out.bel HST.out.bel.size hb); have HR2 := Aside0.mk (blk_below HRES.out.x4 hb); obtain ⟨f0, f1, g0, g1⟩ := row2 HR2.out; clear hb hi2 hcap2 hf)))
    have hch := chg_set2 w2 (w.heap.size + 1 + 1) (.int .i64 f.1) (.slice A2 n2 c2)
    refine bodyPost_ret (results_c rfl _ _ (w.heap.size + 1 + 1) 86 #[.int .i64 f.1, .slice A2 n2 c2] (0, 0) _ rfl (set2 HR2.out) Try.underlying86 rfl (by kernel_rfl)) rfl ?_
    rw [← HF.out]
    have hz2 := HZ2.out
    exact ⟨A2, n2, c2, rfl, HCAP2.out, (HI2.out.same fun b hb hz => hch.block b hz (by rcases hb with hb | hb <;> omega)).mono fun b hb _ => .inr (by rcases hb with hb | hb <;> omega), Chg.trans_below HB2.out hch (fun _ e => by omega) HB2.out.size⟩
end Go.Proofs.Ytdboloabpjmgaaa

/-! RfNR -/
namespace Go.Proofs.Ytdboloabpjmgaaa
open Go.RowKit Go.Proofs.YtdboloabpjmgaaaW.PrintWords Go.RegionInvYtdboloabpjmgaaa Go.RegionEYtdboloabpjmgaaa
set_option linter.unusedVariables false

def NfBoxF (g : Nat) (f : Nf) (w : World) (O : Nat → Prop) : Prop := ∃ A n cap, w.heap[g]? = some (.cells #[.int .i64 f.1, .slice A n cap] 86 (0, 0)) ∧ O g ∧ n ≤ cap ∧ IntsS w (fun k => O k ∧ k ≠ g) A n f.2
theorem stableE_nfboxF {w0 : World} {E : Nat → Nat → Prop} {f : Nf} {g : Nat} : StableE w0 E (fun _ w O => NfBoxF g f w O) := by
  rintro v w w' O ⟨A, n, cap, hb, hO, h1, h2⟩ hz hk
  exact ⟨A, n, cap, (hk g (blk_lt hb) (.inr hO)).trans hb, hO, h1, h2.same fun k hk' hz' => hk k hz' (.inr hk'.1)⟩

def rn1_ops : List Oper := [
  { dst := some 32, op := Go.Op.fieldAddr 25 (Go.Operand.tmp 1) 2, type := 0, pos := "ref.go:137", after := #[], guard := none },
  { dst := some 33, op := Go.Op.load 23 (Go.Operand.tmp 32), type := 23, pos := "ref.go:137", after := #[{ on := 0, ground := Go.Ground.data }], guard := none },
  { dst := some 34, op := Go.Op.indexAddr 23 (Go.Operand.tmp 33) (Go.Operand.const (Go.Value.int Go.IntKind.i64 0)), type := 0, pos := "ref.go:137", after := #[{ on := 1, ground := Go.Ground.data }], guard := none },
  { dst := some 35, op := Go.Op.load 25 (Go.Operand.tmp 34), type := 25, pos := "ref.go:137", after := #[{ on := 2, ground := Go.Ground.data }], guard := none },
  { dst := some 36, op := Go.Op.call { callee := Go.Callee.value (Go.Operand.func 90), args := #[Go.Operand.tmp 35], argTypes := #[25] }, type := 86, pos := "ref.go:137", after := #[{ on := 3, ground := Go.Ground.data }], guard := none },
  { dst := some 37, op := Go.Op.fieldAddr 25 (Go.Operand.tmp 1) 1, type := 0, pos := "ref.go:137", after := #[], guard := none },
  { dst := some 38, op := Go.Op.load 3 (Go.Operand.tmp 37), type := 3, pos := "ref.go:137", after := #[{ on := 5, ground := Go.Ground.data }], guard := none },
  { dst := some 39, op := Go.Op.call { callee := Go.Callee.value (Go.Operand.func 92), args := #[Go.Operand.tmp 36, Go.Operand.tmp 38], argTypes := #[86, 3] }, type := 86, pos := "ref.go:137", after := #[{ on := 4, ground := Go.Ground.data }, { on := 6, ground := Go.Ground.data }, { on := 4, ground := Go.Ground.chain }], guard := none },
  { dst := none, op := Go.Op.store 86 (Go.Operand.tmp 2) (Go.Operand.tmp 39), type := 0, pos := "ref.go:137", after := #[{ on := 7, ground := Go.Ground.data }, { on := 7, ground := Go.Ground.chain }, { on := 0, ground := Go.Ground.phase }, { on := 1, ground := Go.Ground.phase }, { on := 2, ground := Go.Ground.phase }, { on := 3, ground := Go.Ground.phase }, { on := 4, ground := Go.Ground.phase }, { on := 5, ground := Go.Ground.phase }, { on := 6, ground := Go.Ground.phase }, { on := 7, ground := Go.Ground.phase }], guard := none }]
def rn1_F (w0 : World) (b : Nat) (k n : Int) (gb off m c : Nat) (g0 B0 : Value) (xk0 xn0 : Int) (A0 : Option Addr) (m0 c0 : Nat) (f0 : Nf)  : Nat → (Nat → Value) → Value → World → (Nat → Prop) → Prop := fun rix => match rix with
  | 0 => fun _ v _ _ => v = .pointer (some ⟨b, 2, none⟩)
  | 1 => fun _ v _ _ => v = .slice (some ⟨gb, off, none⟩) m c
  | 2 => fun _ v _ _ => v = .pointer (some ⟨gb, off, none⟩)
  | 3 => fun _ v _ _ => v = .agg #[.int .i64 xk0, .int .i64 xn0, .slice A0 m0 c0]
  | 4 => fun τ v w O => NfV (fun _ => False) f0 v w O
  | 5 => fun _ v _ _ => v = .pointer (some ⟨b, 1, none⟩)
  | 6 => fun _ v _ _ => v = .int .i64 n
  | 7 => fun τ v w O => NfV (fun _ => False) (shortN (plusR n f0)) v w O
  | 8 => fun τ v w O => NfBoxF (b + 1) (shortN (plusR n f0)) w O
  | _ => fun _ _ _ _ => True
def rn1_C : Nat → List Nat := fun rix => match rix with
  | 8 => [7]
  | _ => []
theorem rn1_nw1 : nwB rn1_ops.toArray 1 = true := by kernel_rfl
theorem rn1_nw2 : nwB rn1_ops.toArray 2 = true := by kernel_rfl
set_option maxRecDepth 100000 in
set_option maxHeartbeats 8000000 in
theorem rn1_obs (w0 : World) (b : Nat) (k n : Int) (gb off m c : Nat) (g0 B0 : Value) (xk0 xn0 : Int) (A0 : Option Addr) (m0 c0 : Nat) (f0 : Nf)  (hx2 : w0.heap[b]? = some (.cells #[.int .i64 k, .int .i64 n, .slice (some ⟨gb, off, none⟩) m c] 25 (0, 0))) (hx4 : w0.heap[b + 1]? = some (.cells #[g0, B0] 86 (0, 0))) (hgb : gb < b) (hc0 : w0.cell? ⟨gb, off, none⟩ = some (.int .i64 xk0)) (hc1 : w0.cell? ⟨gb, off + 1, none⟩ = some (.int .i64 xn0)) (hc2 : w0.cell? ⟨gb, off + 2, none⟩ = some (.slice A0 m0 c0)) (hof0 : ∀ w, (∀ k, k < b → w.heap[k]? = w0.heap[k]?) → w0.heap.size ≤ w.heap.size → Calls Try.prog 90 #[.agg #[.int .i64 xk0, .int .i64 xn0, .slice A0 m0 c0]] w (NfGot w (fun _ => False) f0)) (hm : 0 < m) (hn0 : 0 ≤ n) (hn1 : n ≤ 1099511627776) (hf0 : NfOk f0) (Q : Exit → Act → World → Prop) (a0 : Act) (hi1 : a0.tmps.getD 1 undef = .pointer (some ⟨b, 0, none⟩)) (hi2 : a0.tmps.getD 2 undef = .pointer (some ⟨b + 1, 0, none⟩)) :
    ObsE Try.prog rn1_ops.toArray Q (est2 8 0 (fun k => k = b + 1) (fun _ => False)) rn1_C (rn1_F w0 b k n gb off m c g0 B0 xk0 xn0 A0 m0 c0 f0 ) a0 w0 rn1_ops.toArray.toList 0 := by
  have nw1 := rn1_nw1
  have nw2 := rn1_nw2
  refine ⟨?_, ?_, ?_, ?_, ?_, ?_, ?_, ?_, ?_, trivial⟩
  · refine ⟨⟨fun τ => stableE_det _, leans_not⟩, ?_⟩
    intro a w O hk
    have e1 : a.eval (.tmp 1) = .pointer (some ⟨b, 0, none⟩) := (hk.init 1 (initialB_of_nw nw1)).trans hi1
    exact obE_run (wanted_none rfl) (by unfold execOp; simp only []; rw [e1]; go_simp) rfl
  · refine ⟨⟨fun τ => stableE_det _, leans_not⟩, ?_⟩
    intro a w O hk
    have e32 : a.eval (.tmp 32) = .pointer (some ⟨b, 2, none⟩) := hk.fact 0 _ 32 rfl rfl rfl rfl
    have x2 := hk.world.still hx2 (fun ⟨_, h⟩ => h.elim (fun h => by have : b = b + 1 := h.2; omega) (fun h => h.2))
    obtain ⟨p0, p1, p2, -, -, -⟩ := row3 x2
    have hfx : ∀ k, k < b → w.heap[k]? = w0.heap[k]? := fun k hkb => hk.fix k (est2_fix (by have := blk_lt hx2; omega) (fun h => by omega) (fun h => h))
    have hcc : ∀ j, w.cell? ⟨gb, j, none⟩ = w0.cell? ⟨gb, j, none⟩ := fun j => cell_same (hfx _ hgb)
    have q0 := (hcc _).trans hc0
    have q1 := (hcc _).trans hc1
    have q2 := (hcc _).trans hc2
    exact obE_run (wanted_none rfl) (by unfold execOp; simp only []; rw [e32]; go_simp) rfl
  · refine ⟨⟨fun τ => stableE_det _, leans_not⟩, ?_⟩
    intro a w O hk
    have e33 : a.eval (.tmp 33) = .slice (some ⟨gb, off, none⟩) m c := hk.fact 1 _ 33 rfl rfl rfl rfl
    have x2 := hk.world.still hx2 (fun ⟨_, h⟩ => h.elim (fun h => by have : b = b + 1 := h.2; omega) (fun h => h.2))
    obtain ⟨p0, p1, p2, -, -, -⟩ := row3 x2
    have hfx : ∀ k, k < b → w.heap[k]? = w0.heap[k]? := fun k hkb => hk.fix k (est2_fix (by have := blk_lt hx2; omega) (fun h => by omega) (fun h => h))
    have hcc : ∀ j, w.cell? ⟨gb, j, none⟩ = w0.cell? ⟨gb, j, none⟩ := fun j => cell_same (hfx _ hgb)
    have q0 := (hcc _).trans hc0
    have q1 := (hcc _).trans hc1
    have q2 := (hcc _).trans hc2
    exact obE_run (wanted_none rfl) (by unfold execOp; simp only []; rw [e33]; go_simp) rfl
  · refine ⟨⟨fun τ => stableE_det _, leans_not⟩, ?_⟩
    intro a w O hk
    have e34 : a.eval (.tmp 34) = .pointer (some ⟨gb, off, none⟩) := hk.fact 2 _ 34 rfl rfl rfl rfl
    have x2 := hk.world.still hx2 (fun ⟨_, h⟩ => h.elim (fun h => by have : b = b + 1 := h.2; omega) (fun h => h.2))
    obtain ⟨p0, p1, p2, -, -, -⟩ := row3 x2
    have hfx : ∀ k, k < b → w.heap[k]? = w0.heap[k]? := fun k hkb => hk.fix k (est2_fix (by have := blk_lt hx2; omega) (fun h => by omega) (fun h => h))
    have hcc : ∀ j, w.cell? ⟨gb, j, none⟩ = w0.cell? ⟨gb, j, none⟩ := fun j => cell_same (hfx _ hgb)
    have q0 := (hcc _).trans hc0
    have q1 := (hcc _).trans hc1
    have q2 := (hcc _).trans hc2
    exact obE_run (wanted_none rfl) (by unfold execOp; simp only []; rw [e34]; go_simp) rfl
  · refine ⟨⟨fun τ => stableE_nf (fun k hk' => hk'.elim), leans_not⟩, ?_⟩
    intro a w O hk
    have e35 : a.eval (.tmp 35) = .agg #[.int .i64 xk0, .int .i64 xn0, .slice A0 m0 c0] := hk.fact 3 _ 35 rfl rfl rfl rfl
    have x2 := hk.world.still hx2 (fun ⟨_, h⟩ => h.elim (fun h => by have : b = b + 1 := h.2; omega) (fun h => h.2))
    obtain ⟨p0, p1, p2, -, -, -⟩ := row3 x2
    have hfx : ∀ k, k < b → w.heap[k]? = w0.heap[k]? := fun k hkb => hk.fix k (est2_fix (by have := blk_lt hx2; omega) (fun h => by omega) (fun h => h))
    have hcc : ∀ j, w.cell? ⟨gb, j, none⟩ = w0.cell? ⟨gb, j, none⟩ := fun j => cell_same (hfx _ hgb)
    have q0 := (hcc _).trans hc0
    have q1 := (hcc _).trans hc1
    have q2 := (hcc _).trans hc2
    refine obE_callNew #[.agg #[.int .i64 xk0, .int .i64 xn0, .slice A0 m0 c0]] rfl rfl rfl rfl (by simp only [List.map_cons, List.map_nil]; rw [e35]) (wanted_none rfl) ((hof0 w hfx hk.world.size).mono ?_)
    intro e w' h
    exact NfV.of_got h
  · refine ⟨⟨fun τ => stableE_det _, leans_not⟩, ?_⟩
    intro a w O hk
    have e1 : a.eval (.tmp 1) = .pointer (some ⟨b, 0, none⟩) := (hk.init 1 (initialB_of_nw nw1)).trans hi1
    exact obE_run (wanted_none rfl) (by unfold execOp; simp only []; rw [e1]; go_simp) rfl
  · refine ⟨⟨fun τ => stableE_det _, leans_not⟩, ?_⟩
    intro a w O hk
    have e37 : a.eval (.tmp 37) = .pointer (some ⟨b, 1, none⟩) := hk.fact 5 _ 37 rfl rfl rfl rfl
    have x2 := hk.world.still hx2 (fun ⟨_, h⟩ => h.elim (fun h => by have : b = b + 1 := h.2; omega) (fun h => h.2))
    obtain ⟨p0, p1, p2, -, -, -⟩ := row3 x2
    have hfx : ∀ k, k < b → w.heap[k]? = w0.heap[k]? := fun k hkb => hk.fix k (est2_fix (by have := blk_lt hx2; omega) (fun h => by omega) (fun h => h))
    have hcc : ∀ j, w.cell? ⟨gb, j, none⟩ = w0.cell? ⟨gb, j, none⟩ := fun j => cell_same (hfx _ hgb)
    have q0 := (hcc _).trans hc0
    have q1 := (hcc _).trans hc1
    have q2 := (hcc _).trans hc2
    exact obE_run (wanted_none rfl) (by unfold execOp; simp only []; rw [e37]; go_simp) rfl
  · refine ⟨⟨fun τ => stableE_nf (fun k hk' => hk'.elim), leans_not⟩, ?_⟩
    intro a w O hk
    have f36 := hk.fact 4 _ 36 rfl rfl rfl rfl
    have g36 := hk.owns 4 rfl rfl
    have e38 : a.eval (.tmp 38) = .int .i64 n := hk.fact 6 _ 38 rfl rfl rfl rfl
    have x2 := hk.world.still hx2 (fun ⟨_, h⟩ => h.elim (fun h => by have : b = b + 1 := h.2; omega) (fun h => h.2))
    obtain ⟨p0, p1, p2, -, -, -⟩ := row3 x2
    have hfx : ∀ k, k < b → w.heap[k]? = w0.heap[k]? := fun k hkb => hk.fix k (est2_fix (by have := blk_lt hx2; omega) (fun h => by omega) (fun h => h))
    have hcc : ∀ j, w.cell? ⟨gb, j, none⟩ = w0.cell? ⟨gb, j, none⟩ := fun j => cell_same (hfx _ hgb)
    have q0 := (hcc _).trans hc0
    have q1 := (hcc _).trans hc1
    have q2 := (hcc _).trans hc2
    obtain ⟨A, n', cap, e36, h1, h2⟩ := f36
    have hln := h2.1.1
    have hok := hf0
    refine obE_callNew #[.agg #[.int .i64 f0.1, .slice A n' cap], .int .i64 n] rfl rfl rfl rfl (by simp only [List.map_cons, List.map_nil]; rw [e38, show a.eval (.tmp 36) = _ from e36]) (wanted_none rfl) ((refPlus_calls A n' cap f0.1 n f0.2 w h2.1 hok.1 hok.2.1 hn0 hn1 hok.2.2.1 (by have := hok.2.2.2; omega)).mono ?_)
    intro e w' h
    exact NfV.of_got h
  · refine ⟨⟨fun τ => stableE_nfboxF, leans_not⟩, ?_⟩
    intro a w O hk
    have e2 : a.eval (.tmp 2) = .pointer (some ⟨b + 1, 0, none⟩) := (hk.init 2 (initialB_of_nw nw2)).trans hi2
    have f39 := hk.fact 7 _ 39 rfl rfl rfl rfl
    have g39 := hk.owns 7 rfl rfl
    have x2 := hk.world.still hx2 (fun ⟨_, h⟩ => h.elim (fun h => by have : b = b + 1 := h.2; omega) (fun h => h.2))
    obtain ⟨p0, p1, p2, -, -, -⟩ := row3 x2
    have hfx : ∀ k, k < b → w.heap[k]? = w0.heap[k]? := fun k hkb => hk.fix k (est2_fix (by have := blk_lt hx2; omega) (fun h => by omega) (fun h => h))
    have hcc : ∀ j, w.cell? ⟨gb, j, none⟩ = w0.cell? ⟨gb, j, none⟩ := fun j => cell_same (hfx _ hgb)
    have q0 := (hcc _).trans hc0
    have q1 := (hcc _).trans hc1
    have q2 := (hcc _).trans hc2
    have x4 := (hk.est 8 _ rfl (.inl rfl) (b + 1) (.inl ⟨rfl, rfl⟩)).trans hx4
    obtain ⟨z0, z1, y0, y1⟩ := row2 x4
    obtain ⟨A, n', cap, e39, h1, h2⟩ := f39
    refine obE_store (w' := (w.setCell ⟨b + 1, 0, none⟩ (.int .i64 (shortN (plusR n f0)).1)).setCell ⟨b + 1, 1, none⟩ (.slice A n' cap)) (fun k => k = b + 1 ∨ O 7 k) (wanted_none rfl) (by unfold execOp; simp only []; rw [e2, show a.eval (.tmp 39) = _ from e39]; go_simp) ((chg_set2 w (b + 1) _ _).mono fun k h => .inr (.inl ⟨rfl, h⟩)) ?_ (fun k h => .inl ?_)
    · exact ⟨A, n', cap, set2 x4, .inl rfl, h1, (h2.same fun k hk' hz => (chg_set2 w (b + 1) _ _).block k hz (fun h => hk'.elim id fun h' => hk.away 8 7 _ rfl (.inl rfl) rfl rfl (b + 1) (.inl ⟨rfl, rfl⟩) (h ▸ h'))).mono fun k hk' _ => hk'.elim False.elim fun h' => ⟨.inr h', fun h => hk.away 8 7 _ rfl (.inl rfl) rfl rfl (b + 1) (.inl ⟨rfl, rfl⟩) (h ▸ h')⟩⟩
    · exact h.elim (fun h => .inr (.inl ⟨rfl, h⟩)) fun h => .inl ⟨7, by simp [rn1_C], h⟩
set_option maxRecDepth 100000 in
set_option maxHeartbeats 8000000 in
theorem rn1_region {Q : Exit → Act → World → Prop} {id : Nat} (w0 : World) (b : Nat) (k n : Int) (gb off m c : Nat) (g0 B0 : Value) (xk0 xn0 : Int) (A0 : Option Addr) (m0 c0 : Nat) (f0 : Nf)  {s0 s3 s4 s5 s6 s7 s8 s9 s10 s11 s12 s13 s14 s15 s16 s17 s18 s19 s20 s21 s22 s23 s24 s25 s26 s27 s28 s29 s30 s31 s32 s33 s34 s35 s36 s37 s38 s39 s40 s41 s42 s43 s44 s45 s46 s47 s48 s49 s50 : Value} (hx2 : w0.heap[b]? = some (.cells #[.int .i64 k, .int .i64 n, .slice (some ⟨gb, off, none⟩) m c] 25 (0, 0))) (hx4 : w0.heap[b + 1]? = some (.cells #[g0, B0] 86 (0, 0))) (hgb : gb < b) (hc0 : w0.cell? ⟨gb, off, none⟩ = some (.int .i64 xk0)) (hc1 : w0.cell? ⟨gb, off + 1, none⟩ = some (.int .i64 xn0)) (hc2 : w0.cell? ⟨gb, off + 2, none⟩ = some (.slice A0 m0 c0)) (hof0 : ∀ w, (∀ k, k < b → w.heap[k]? = w0.heap[k]?) → w0.heap.size ≤ w.heap.size → Calls Try.prog 90 #[.agg #[.int .i64 xk0, .int .i64 xn0, .slice A0 m0 c0]] w (NfGot w (fun _ => False) f0)) (hm : 0 < m) (hn0 : 0 ≤ n) (hn1 : n ≤ 1099511627776) (hf0 : NfOk f0)
    (hend : ∀ (w' : World) (u36 : Value) (u39 : Value) (O4 : Nat → Prop) (v8 : Value) (O8 : Nat → Prop), Chg (fun k => (fun k => k = b + 1) k ∨ (fun _ => False) k) w0 w' → (NfV (fun _ => False) f0 u36 w' O4) → (∀ k, O4 k → k < w'.heap.size ∧ ¬ Fix w0 (est2 8 0 (fun k => k = b + 1) (fun _ => False)) k) → (NfBoxF (b + 1) (shortN (plusR n f0)) w' O8) → (∀ k, O8 k → k < w'.heap.size ∧ ¬ Fix w0 (est2 8 0 (fun k => k = b + 1) (fun _ => False)) k) → Q .normal { tmps := (s0 :: (.pointer (some ⟨b, 0, none⟩)) :: (.pointer (some ⟨b + 1, 0, none⟩)) :: s3 :: s4 :: s5 :: s6 :: s7 :: s8 :: s9 :: s10 :: s11 :: s12 :: s13 :: s14 :: s15 :: s16 :: s17 :: s18 :: s19 :: s20 :: s21 :: s22 :: s23 :: s24 :: s25 :: s26 :: s27 :: s28 :: s29 :: s30 :: s31 :: (.pointer (some ⟨b, 2, none⟩)) :: (.slice (some ⟨gb, off, none⟩) m c) :: (.pointer (some ⟨gb, off, none⟩)) :: (.agg #[.int .i64 xk0, .int .i64 xn0, .slice A0 m0 c0]) :: u36 :: (.pointer (some ⟨b, 1, none⟩)) :: (.int .i64 n) :: u39 :: s40 :: s41 :: s42 :: s43 :: s44 :: s45 :: s46 :: s47 :: s48 :: s49 :: s50 :: [] : List Value).toArray, defers := [] } w') :
    (Code.region id rn1_ops.toArray true).wp Try.prog Q { tmps := (s0 :: (.pointer (some ⟨b, 0, none⟩)) :: (.pointer (some ⟨b + 1, 0, none⟩)) :: s3 :: s4 :: s5 :: s6 :: s7 :: s8 :: s9 :: s10 :: s11 :: s12 :: s13 :: s14 :: s15 :: s16 :: s17 :: s18 :: s19 :: s20 :: s21 :: s22 :: s23 :: s24 :: s25 :: s26 :: s27 :: s28 :: s29 :: s30 :: s31 :: s32 :: s33 :: s34 :: s35 :: s36 :: s37 :: s38 :: s39 :: s40 :: s41 :: s42 :: s43 :: s44 :: s45 :: s46 :: s47 :: s48 :: s49 :: s50 :: [] : List Value).toArray, defers := [] } w0 := by
  refine wp_region_est (by kernel_rfl) (est2 8 0 (fun k => k = b + 1) (fun _ => False)) rn1_C (rn1_F w0 b k n gb off m c g0 B0 xk0 xn0 A0 m0 c0 f0 ) (est2_dis (fun k h1 h2 => h2)) (est2_range (fun k h => by have := blk_lt hx4; omega) (fun k h => h.elim)) (by rfl) (by kernel_rfl) (rn1_obs w0.drew b k n gb off m c g0 B0 xk0 xn0 A0 m0 c0 f0  hx2 hx4 hgb hc0 hc1 hc2 hof0 hm hn0 hn1 hf0 _ _ rfl rfl) ?_
  intro a w' O hd hs hb hf hf2 ha hsame
  have hl := slots_eq (ops := rn1_ops.toArray) [(32, .pointer (some ⟨b, 2, none⟩)), (33, .slice (some ⟨gb, off, none⟩) m c), (34, .pointer (some ⟨gb, off, none⟩)), (35, .agg #[.int .i64 xk0, .int .i64 xn0, .slice A0 m0 c0]), (36, a.tmps.getD 36 undef), (37, .pointer (some ⟨b, 1, none⟩)), (38, .int .i64 n), (39, a.tmps.getD 39 undef)] (show a.tmps.size = 51 from hs) (fun i h => hsame i h) ⟨(hf 0 _ 32 rfl rfl (by decide)).1, (hf 1 _ 33 rfl rfl (by decide)).1, (hf 2 _ 34 rfl rfl (by decide)).1, (hf 3 _ 35 rfl rfl (by decide)).1, rfl, (hf 5 _ 37 rfl rfl (by decide)).1, (hf 6 _ 38 rfl rfl (by decide)).1, rfl, trivial⟩ (by kernel_rfl)
  obtain ⟨tmps, defers⟩ := a
  obtain rfl : defers = [] := hd
  have hl' : tmps = _ := hl
  rw [hl']
  obtain ⟨⟨v8, hv8⟩, ho8⟩ := hf2 8 _ rfl rfl (by decide)
  have hb' := est2_chg hb
  refine Eq.mp ?_ (hend w' (tmps.getD 36 undef) (tmps.getD 39 undef) (O 4) v8 (O 8) ⟨hb'.os, hb'.tape, hb'.output, hb'.size, hb'.block⟩ (hf 4 _ 36 rfl rfl (by decide)).1 (hf 4 _ 36 rfl rfl (by decide)).2 hv8 ho8)
  kernel_rfl

def rn2_ops : List Oper := [
  { dst := some 40, op := Go.Op.fieldAddr 25 (Go.Operand.tmp 1) 2, type := 0, pos := "ref.go:139", after := #[], guard := none },
  { dst := some 41, op := Go.Op.load 23 (Go.Operand.tmp 40), type := 23, pos := "ref.go:139", after := #[{ on := 0, ground := Go.Ground.data }], guard := none },
  { dst := some 42, op := Go.Op.indexAddr 23 (Go.Operand.tmp 41) (Go.Operand.const (Go.Value.int Go.IntKind.i64 0)), type := 0, pos := "ref.go:139", after := #[{ on := 1, ground := Go.Ground.data }], guard := none },
  { dst := some 43, op := Go.Op.load 25 (Go.Operand.tmp 42), type := 25, pos := "ref.go:139", after := #[{ on := 2, ground := Go.Ground.data }], guard := none },
  { dst := some 44, op := Go.Op.call { callee := Go.Callee.value (Go.Operand.func 90), args := #[Go.Operand.tmp 43], argTypes := #[25] }, type := 86, pos := "ref.go:139", after := #[{ on := 3, ground := Go.Ground.data }], guard := none },
  { dst := some 45, op := Go.Op.fieldAddr 25 (Go.Operand.tmp 1) 2, type := 0, pos := "ref.go:139", after := #[], guard := none },
  { dst := some 46, op := Go.Op.load 23 (Go.Operand.tmp 45), type := 23, pos := "ref.go:139", after := #[{ on := 5, ground := Go.Ground.data }], guard := none },
  { dst := some 47, op := Go.Op.indexAddr 23 (Go.Operand.tmp 46) (Go.Operand.const (Go.Value.int Go.IntKind.i64 1)), type := 0, pos := "ref.go:139", after := #[{ on := 6, ground := Go.Ground.data }], guard := none },
  { dst := some 48, op := Go.Op.load 25 (Go.Operand.tmp 47), type := 25, pos := "ref.go:139", after := #[{ on := 7, ground := Go.Ground.data }], guard := none },
  { dst := some 49, op := Go.Op.call { callee := Go.Callee.value (Go.Operand.func 90), args := #[Go.Operand.tmp 48], argTypes := #[25] }, type := 86, pos := "ref.go:139", after := #[{ on := 8, ground := Go.Ground.data }, { on := 4, ground := Go.Ground.chain }], guard := none },
  { dst := some 50, op := Go.Op.call { callee := Go.Callee.value (Go.Operand.func 91), args := #[Go.Operand.tmp 44, Go.Operand.tmp 49], argTypes := #[86, 86] }, type := 86, pos := "ref.go:139", after := #[{ on := 4, ground := Go.Ground.data }, { on := 9, ground := Go.Ground.data }, { on := 9, ground := Go.Ground.chain }], guard := none },
  { dst := none, op := Go.Op.store 86 (Go.Operand.tmp 2) (Go.Operand.tmp 50), type := 0, pos := "ref.go:139", after := #[{ on := 10, ground := Go.Ground.data }, { on := 10, ground := Go.Ground.chain }, { on := 0, ground := Go.Ground.phase }, { on := 1, ground := Go.Ground.phase }, { on := 2, ground := Go.Ground.phase }, { on := 3, ground := Go.Ground.phase }, { on := 4, ground := Go.Ground.phase }, { on := 5, ground := Go.Ground.phase }, { on := 6, ground := Go.Ground.phase }, { on := 7, ground := Go.Ground.phase }, { on := 8, ground := Go.Ground.phase }, { on := 9, ground := Go.Ground.phase }, { on := 10, ground := Go.Ground.phase }], guard := none }]
def rn2_F (w0 : World) (b : Nat) (k n : Int) (gb off c : Nat) (g0 B0 : Value) (xk0 xn0 : Int) (A0 : Option Addr) (m0 c0 : Nat) (f0 : Nf) (xk1 xn1 : Int) (A1 : Option Addr) (m1 c1 : Nat) (f1 : Nf)  : Nat → (Nat → Value) → Value → World → (Nat → Prop) → Prop := fun rix => match rix with
  | 0 => fun _ v _ _ => v = .pointer (some ⟨b, 2, none⟩)
  | 1 => fun _ v _ _ => v = .slice (some ⟨gb, off, none⟩) 2 c
  | 2 => fun _ v _ _ => v = .pointer (some ⟨gb, off, none⟩)
  | 3 => fun _ v _ _ => v = .agg #[.int .i64 xk0, .int .i64 xn0, .slice A0 m0 c0]
  | 4 => fun τ v w O => NfV (fun _ => False) f0 v w O
  | 5 => fun _ v _ _ => v = .pointer (some ⟨b, 2, none⟩)
  | 6 => fun _ v _ _ => v = .slice (some ⟨gb, off, none⟩) 2 c
  | 7 => fun _ v _ _ => v = .pointer (some ⟨gb, off + 3, none⟩)
  | 8 => fun _ v _ _ => v = .agg #[.int .i64 xk1, .int .i64 xn1, .slice A1 m1 c1]
  | 9 => fun τ v w O => NfV (fun _ => False) f1 v w O
  | 10 => fun τ v w O => NfV (fun _ => False) (shortN (orN f0 f1)) v w O
  | 11 => fun τ v w O => NfBoxF (b + 1) (shortN (orN f0 f1)) w O
  | _ => fun _ _ _ _ => True
def rn2_C : Nat → List Nat := fun rix => match rix with
  | 11 => [10]
  | _ => []
theorem rn2_nw1 : nwB rn2_ops.toArray 1 = true := by kernel_rfl
theorem rn2_nw2 : nwB rn2_ops.toArray 2 = true := by kernel_rfl
set_option maxRecDepth 100000 in
set_option maxHeartbeats 8000000 in
theorem rn2_obs (w0 : World) (b : Nat) (k n : Int) (gb off c : Nat) (g0 B0 : Value) (xk0 xn0 : Int) (A0 : Option Addr) (m0 c0 : Nat) (f0 : Nf) (xk1 xn1 : Int) (A1 : Option Addr) (m1 c1 : Nat) (f1 : Nf)  (hx2 : w0.heap[b]? = some (.cells #[.int .i64 k, .int .i64 n, .slice (some ⟨gb, off, none⟩) 2 c] 25 (0, 0))) (hx4 : w0.heap[b + 1]? = some (.cells #[g0, B0] 86 (0, 0))) (hgb : gb < b) (hc0 : w0.cell? ⟨gb, off, none⟩ = some (.int .i64 xk0)) (hc1 : w0.cell? ⟨gb, off + 1, none⟩ = some (.int .i64 xn0)) (hc2 : w0.cell? ⟨gb, off + 2, none⟩ = some (.slice A0 m0 c0)) (hc3 : w0.cell? ⟨gb, off + 3, none⟩ = some (.int .i64 xk1)) (hc4 : w0.cell? ⟨gb, off + 4, none⟩ = some (.int .i64 xn1)) (hc5 : w0.cell? ⟨gb, off + 5, none⟩ = some (.slice A1 m1 c1)) (hof0 : ∀ w, (∀ k, k < b → w.heap[k]? = w0.heap[k]?) → w0.heap.size ≤ w.heap.size → Calls Try.prog 90 #[.agg #[.int .i64 xk0, .int .i64 xn0, .slice A0 m0 c0]] w (NfGot w (fun _ => False) f0)) (hof1 : ∀ w, (∀ k, k < b → w.heap[k]? = w0.heap[k]?) → w0.heap.size ≤ w.heap.size → Calls Try.prog 90 #[.agg #[.int .i64 xk1, .int .i64 xn1, .slice A1 m1 c1]] w (NfGot w (fun _ => False) f1)) (hf0 : NfOk f0) (hf1 : NfOk f1) (Q : Exit → Act → World → Prop) (a0 : Act) (hi1 : a0.tmps.getD 1 undef = .pointer (some ⟨b, 0, none⟩)) (hi2 : a0.tmps.getD 2 undef = .pointer (some ⟨b + 1, 0, none⟩)) :
    ObsE Try.prog rn2_ops.toArray Q (est2 11 0 (fun k => k = b + 1) (fun _ => False)) rn2_C (rn2_F w0 b k n gb off c g0 B0 xk0 xn0 A0 m0 c0 f0 xk1 xn1 A1 m1 c1 f1 ) a0 w0 rn2_ops.toArray.toList 0 := by
  have nw1 := rn2_nw1
  have nw2 := rn2_nw2
  refine ⟨?_, ?_, ?_, ?_, ?_, ?_, ?_, ?_, ?_, ?_, ?_, ?_, trivial⟩
  · refine ⟨⟨fun τ => stableE_det _, leans_not⟩, ?_⟩
    intro a w O hk
    have e1 : a.eval (.tmp 1) = .pointer (some ⟨b, 0, none⟩) := (hk.init 1 (initialB_of_nw nw1)).trans hi1
    exact obE_run (wanted_none rfl) (by unfold execOp; simp only []; rw [e1]; go_simp) rfl
  · refine ⟨⟨fun τ => stableE_det _, leans_not⟩, ?_⟩
    intro a w O hk
    have e40 : a.eval (.tmp 40) = .pointer (some ⟨b, 2, none⟩) := hk.fact 0 _ 40 rfl rfl rfl rfl
    have x2 := hk.world.still hx2 (fun ⟨_, h⟩ => h.elim (fun h => by have : b = b + 1 := h.2; omega) (fun h => h.2))
    obtain ⟨p0, p1, p2, -, -, -⟩ := row3 x2
    have hfx : ∀ k, k < b → w.heap[k]? = w0.heap[k]? := fun k hkb => hk.fix k (est2_fix (by have := blk_lt hx2; omega) (fun h => by omega) (fun h => h))
    have hcc : ∀ j, w.cell? ⟨gb, j, none⟩ = w0.cell? ⟨gb, j, none⟩ := fun j => cell_same (hfx _ hgb)
    have q0 := (hcc _).trans hc0
    have q1 := (hcc _).trans hc1
    have q2 := (hcc _).trans hc2
    have q3 := (hcc _).trans hc3
    have q4 := (hcc _).trans hc4
    have q5 := (hcc _).trans hc5
    exact obE_run (wanted_none rfl) (by unfold execOp; simp only []; rw [e40]; go_simp) rfl
  · refine ⟨⟨fun τ => stableE_det _, leans_not⟩, ?_⟩
    intro a w O hk
    have e41 : a.eval (.tmp 41) = .slice (some ⟨gb, off, none⟩) 2 c := hk.fact 1 _ 41 rfl rfl rfl rfl
    have x2 := hk.world.still hx2 (fun ⟨_, h⟩ => h.elim (fun h => by have : b = b + 1 := h.2; omega) (fun h => h.2))
    obtain ⟨p0, p1, p2, -, -, -⟩ := row3 x2
    have hfx : ∀ k, k < b → w.heap[k]? = w0.heap[k]? := fun k hkb => hk.fix k (est2_fix (by have := blk_lt hx2; omega) (fun h => by omega) (fun h => h))
    have hcc : ∀ j, w.cell? ⟨gb, j, none⟩ = w0.cell? ⟨gb, j, none⟩ := fun j => cell_same (hfx _ hgb)
    have q0 := (hcc _).trans hc0
    have q1 := (hcc _).trans hc1
    have q2 := (hcc _).trans hc2
    have q3 := (hcc _).trans hc3
    have q4 := (hcc _).trans hc4
    have q5 := (hcc _).trans hc5
    exact obE_run (wanted_none rfl) (by unfold execOp; simp only []; rw [e41]; go_simp) rfl
  · refine ⟨⟨fun τ => stableE_det _, leans_not⟩, ?_⟩
    intro a w O hk
    have e42 : a.eval (.tmp 42) = .pointer (some ⟨gb, off, none⟩) := hk.fact 2 _ 42 rfl rfl rfl rfl
    have x2 := hk.world.still hx2 (fun ⟨_, h⟩ => h.elim (fun h => by have : b = b + 1 := h.2; omega) (fun h => h.2))
    obtain ⟨p0, p1, p2, -, -, -⟩ := row3 x2
    have hfx : ∀ k, k < b → w.heap[k]? = w0.heap[k]? := fun k hkb => hk.fix k (est2_fix (by have := blk_lt hx2; omega) (fun h => by omega) (fun h => h))
    have hcc : ∀ j, w.cell? ⟨gb, j, none⟩ = w0.cell? ⟨gb, j, none⟩ := fun j => cell_same (hfx _ hgb)
    have q0 := (hcc _).trans hc0
    have q1 := (hcc _).trans hc1
    have q2 := (hcc _).trans hc2
    have q3 := (hcc _).trans hc3
    have q4 := (hcc _).trans hc4
    have q5 := (hcc _).trans hc5
    exact obE_run (wanted_none rfl) (by unfold execOp; simp only []; rw [e42]; go_simp) rfl
  · refine ⟨⟨fun τ => stableE_nf (fun k hk' => hk'.elim), leans_not⟩, ?_⟩
    intro a w O hk
    have e43 : a.eval (.tmp 43) = .agg #[.int .i64 xk0, .int .i64 xn0, .slice A0 m0 c0] := hk.fact 3 _ 43 rfl rfl rfl rfl
    have x2 := hk.world.still hx2 (fun ⟨_, h⟩ => h.elim (fun h => by have : b = b + 1 := h.2; omega) (fun h => h.2))
    obtain ⟨p0, p1, p2, -, -, -⟩ := row3 x2
    have hfx : ∀ k, k < b → w.heap[k]? = w0.heap[k]? := fun k hkb => hk.fix k (est2_fix (by have := blk_lt hx2; omega) (fun h => by omega) (fun h => h))
    have hcc : ∀ j, w.cell? ⟨gb, j, none⟩ = w0.cell? ⟨gb, j, none⟩ := fun j => cell_same (hfx _ hgb)
    have q0 := (hcc _).trans hc0
    have q1 := (hcc _).trans hc1
    have q2 := (hcc _).trans hc2
    have q3 := (hcc _).trans hc3
    have q4 := (hcc _).trans hc4
    have q5 := (hcc _).trans hc5
    refine obE_callNew #[.agg #[.int .i64 xk0, .int .i64 xn0, .slice A0 m0 c0]] rfl rfl rfl rfl (by simp only [List.map_cons, List.map_nil]; rw [e43]) (wanted_none rfl) ((hof0 w hfx hk.world.size).mono ?_)
    intro e w' h
    exact NfV.of_got h
  · refine ⟨⟨fun τ => stableE_det _, leans_not⟩, ?_⟩
    intro a w O hk
    have e1 : a.eval (.tmp 1) = .pointer (some ⟨b, 0, none⟩) := (hk.init 1 (initialB_of_nw nw1)).trans hi1
    exact obE_run (wanted_none rfl) (by unfold execOp; simp only []; rw [e1]; go_simp) rfl
  · refine ⟨⟨fun τ => stableE_det _, leans_not⟩, ?_⟩
    intro a w O hk
    have e45 : a.eval (.tmp 45) = .pointer (some ⟨b, 2, none⟩) := hk.fact 5 _ 45 rfl rfl rfl rfl
    have x2 := hk.world.still hx2 (fun ⟨_, h⟩ => h.elim (fun h => by have : b = b + 1 := h.2; omega) (fun h => h.2))
    obtain ⟨p0, p1, p2, -, -, -⟩ := row3 x2
    have hfx : ∀ k, k < b → w.heap[k]? = w0.heap[k]? := fun k hkb => hk.fix k (est2_fix (by have := blk_lt hx2; omega) (fun h => by omega) (fun h => h))
    have hcc : ∀ j, w.cell? ⟨gb, j, none⟩ = w0.cell? ⟨gb, j, none⟩ := fun j => cell_same (hfx _ hgb)
    have q0 := (hcc _).trans hc0
    have q1 := (hcc _).trans hc1
    have q2 := (hcc _).trans hc2
    have q3 := (hcc _).trans hc3
    have q4 := (hcc _).trans hc4
    have q5 := (hcc _).trans hc5
    exact obE_run (wanted_none rfl) (by unfold execOp; simp only []; rw [e45]; go_simp) rfl
  · refine ⟨⟨fun τ => stableE_det _, leans_not⟩, ?_⟩
    intro a w O hk
    have e46 : a.eval (.tmp 46) = .slice (some ⟨gb, off, none⟩) 2 c := hk.fact 6 _ 46 rfl rfl rfl rfl
    have x2 := hk.world.still hx2 (fun ⟨_, h⟩ => h.elim (fun h => by have : b = b + 1 := h.2; omega) (fun h => h.2))
    obtain ⟨p0, p1, p2, -, -, -⟩ := row3 x2
    have hfx : ∀ k, k < b → w.heap[k]? = w0.heap[k]? := fun k hkb => hk.fix k (est2_fix (by have := blk_lt hx2; omega) (fun h => by omega) (fun h => h))
    have hcc : ∀ j, w.cell? ⟨gb, j, none⟩ = w0.cell? ⟨gb, j, none⟩ := fun j => cell_same (hfx _ hgb)
    have q0 := (hcc _).trans hc0
    have q1 := (hcc _).trans hc1
    have q2 := (hcc _).trans hc2
    have q3 := (hcc _).trans hc3
    have q4 := (hcc _).trans hc4
    have q5 := (hcc _).trans hc5
    exact obE_run (wanted_none rfl) (by unfold execOp; simp only []; rw [e46]; go_simp) rfl
  · refine ⟨⟨fun τ => stableE_det _, leans_not⟩, ?_⟩
    intro a w O hk
    have e47 : a.eval (.tmp 47) = .pointer (some ⟨gb, off + 3, none⟩) := hk.fact 7 _ 47 rfl rfl rfl rfl
    have x2 := hk.world.still hx2 (fun ⟨_, h⟩ => h.elim (fun h => by have : b = b + 1 := h.2; omega) (fun h => h.2))
    obtain ⟨p0, p1, p2, -, -, -⟩ := row3 x2
    have hfx : ∀ k, k < b → w.heap[k]? = w0.heap[k]? := fun k hkb => hk.fix k (est2_fix (by have := blk_lt hx2; omega) (fun h => by omega) (fun h => h))
    have hcc : ∀ j, w.cell? ⟨gb, j, none⟩ = w0.cell? ⟨gb, j, none⟩ := fun j => cell_same (hfx _ hgb)
    have q0 := (hcc _).trans hc0
    have q1 := (hcc _).trans hc1
    have q2 := (hcc _).trans hc2
    have q3 := (hcc _).trans hc3
    have q4 := (hcc _).trans hc4
    have q5 := (hcc _).trans hc5
    exact obE_run (wanted_none rfl) (by unfold execOp; simp only []; rw [e47]; go_simp) rfl
  · refine ⟨⟨fun τ => stableE_nf (fun k hk' => hk'.elim), leans_not⟩, ?_⟩
    intro a w O hk
    have e48 : a.eval (.tmp 48) = .agg #[.int .i64 xk1, .int .i64 xn1, .slice A1 m1 c1] := hk.fact 8 _ 48 rfl rfl rfl rfl
    have x2 := hk.world.still hx2 (fun ⟨_, h⟩ => h.elim (fun h => by have : b = b + 1 := h.2; omega) (fun h => h.2))
    obtain ⟨p0, p1, p2, -, -, -⟩ := row3 x2
    have hfx : ∀ k, k < b → w.heap[k]? = w0.heap[k]? := fun k hkb => hk.fix k (est2_fix (by have := blk_lt hx2; omega) (fun h => by omega) (fun h => h))
    have hcc : ∀ j, w.cell? ⟨gb, j, none⟩ = w0.cell? ⟨gb, j, none⟩ := fun j => cell_same (hfx _ hgb)
    have q0 := (hcc _).trans hc0
    have q1 := (hcc _).trans hc1
    have q2 := (hcc _).trans hc2
    have q3 := (hcc _).trans hc3
    have q4 := (hcc _).trans hc4
    have q5 := (hcc _).trans hc5
    refine obE_callNew #[.agg #[.int .i64 xk1, .int .i64 xn1, .slice A1 m1 c1]] rfl rfl rfl rfl (by simp only [List.map_cons, List.map_nil]; rw [e48]) (wanted_none rfl) ((hof1 w hfx hk.world.size).mono ?_)
    intro e w' h
    exact NfV.of_got h
  · refine ⟨⟨fun τ => stableE_nf (fun k hk' => hk'.elim), leans_not⟩, ?_⟩
    intro a w O hk
    have f44 := hk.fact 4 _ 44 rfl rfl rfl rfl
    have g44 := hk.owns 4 rfl rfl
    have f49 := hk.fact 9 _ 49 rfl rfl rfl rfl
    have g49 := hk.owns 9 rfl rfl
    have x2 := hk.world.still hx2 (fun ⟨_, h⟩ => h.elim (fun h => by have : b = b + 1 := h.2; omega) (fun h => h.2))
    obtain ⟨p0, p1, p2, -, -, -⟩ := row3 x2
    have hfx : ∀ k, k < b → w.heap[k]? = w0.heap[k]? := fun k hkb => hk.fix k (est2_fix (by have := blk_lt hx2; omega) (fun h => by omega) (fun h => h))
    have hcc : ∀ j, w.cell? ⟨gb, j, none⟩ = w0.cell? ⟨gb, j, none⟩ := fun j => cell_same (hfx _ hgb)
    have q0 := (hcc _).trans hc0
    have q1 := (hcc _).trans hc1
    have q2 := (hcc _).trans hc2
    have q3 := (hcc _).trans hc3
    have q4 := (hcc _).trans hc4
    have q5 := (hcc _).trans hc5
    obtain ⟨A, n', cap, e44, h1, h2⟩ := f44
    obtain ⟨A', n'', cap', e49, h1', h2'⟩ := f49
    have hln := h2.1.1
    have hln' := h2'.1.1
    have hok := hf0
    have hok' := hf1
    refine obE_callNew #[.agg #[.int .i64 f0.1, .slice A n' cap], .agg #[.int .i64 f1.1, .slice A' n'' cap']] rfl rfl rfl rfl (by simp only [List.map_cons, List.map_nil]; rw [show a.eval (.tmp 44) = _ from e44, show a.eval (.tmp 49) = _ from e49]) (wanted_none rfl) ((refBoth_calls A A' n' cap n'' cap' f0.1 f1.1 f0.2 f1.2 w h2.1 h2'.1 hok.1 hok.2.2.1 hok'.2.2.1 (by have := hok.2.2.2; omega) (by have := hok'.2.2.2; omega)).mono ?_)
    intro e w' h
    exact NfV.of_got h
  · refine ⟨⟨fun τ => stableE_nfboxF, leans_not⟩, ?_⟩
    intro a w O hk
    have e2 : a.eval (.tmp 2) = .pointer (some ⟨b + 1, 0, none⟩) := (hk.init 2 (initialB_of_nw nw2)).trans hi2
    have f50 := hk.fact 10 _ 50 rfl rfl rfl rfl
    have g50 := hk.owns 10 rfl rfl
    have x2 := hk.world.still hx2 (fun ⟨_, h⟩ => h.elim (fun h => by have : b = b + 1 := h.2; omega) (fun h => h.2))
    obtain ⟨p0, p1, p2, -, -, -⟩ := row3 x2
    have hfx : ∀ k, k < b → w.heap[k]? = w0.heap[k]? := fun k hkb => hk.fix k (est2_fix (by have := blk_lt hx2; omega) (fun h => by omega) (fun h => h))
    have hcc : ∀ j, w.cell? ⟨gb, j, none⟩ = w0.cell? ⟨gb, j, none⟩ := fun j => cell_same (hfx _ hgb)
    have q0 := (hcc _).trans hc0
    have q1 := (hcc _).trans hc1
    have q2 := (hcc _).trans hc2
    have q3 := (hcc _).trans hc3
    have q4 := (hcc _).trans hc4
    have q5 := (hcc _).trans hc5
    have x4 := (hk.est 11 _ rfl (.inl rfl) (b + 1) (.inl ⟨rfl, rfl⟩)).trans hx4
    obtain ⟨z0, z1, y0, y1⟩ := row2 x4
    obtain ⟨A, n', cap, e50, h1, h2⟩ := f50
    refine obE_store (w' := (w.setCell ⟨b + 1, 0, none⟩ (.int .i64 (shortN (orN f0 f1)).1)).setCell ⟨b + 1, 1, none⟩ (.slice A n' cap)) (fun k => k = b + 1 ∨ O 10 k) (wanted_none rfl) (by unfold execOp; simp only []; rw [e2, show a.eval (.tmp 50) = _ from e50]; go_simp) ((chg_set2 w (b + 1) _ _).mono fun k h => .inr (.inl ⟨rfl, h⟩)) ?_ (fun k h => .inl ?_)
    · exact ⟨A, n', cap, set2 x4, .inl rfl, h1, (h2.same fun k hk' hz => (chg_set2 w (b + 1) _ _).block k hz (fun h => hk'.elim id fun h' => hk.away 11 10 _ rfl (.inl rfl) rfl rfl (b + 1) (.inl ⟨rfl, rfl⟩) (h ▸ h'))).mono fun k hk' _ => hk'.elim False.elim fun h' => ⟨.inr h', fun h => hk.away 11 10 _ rfl (.inl rfl) rfl rfl (b + 1) (.inl ⟨rfl, rfl⟩) (h ▸ h')⟩⟩
    · exact h.elim (fun h => .inr (.inl ⟨rfl, h⟩)) fun h => .inl ⟨10, by simp [rn2_C], h⟩
set_option maxRecDepth 100000 in
set_option maxHeartbeats 8000000 in
theorem rn2_region {Q : Exit → Act → World → Prop} {id : Nat} (w0 : World) (b : Nat) (k n : Int) (gb off c : Nat) (g0 B0 : Value) (xk0 xn0 : Int) (A0 : Option Addr) (m0 c0 : Nat) (f0 : Nf) (xk1 xn1 : Int) (A1 : Option Addr) (m1 c1 : Nat) (f1 : Nf)  {s0 s3 s4 s5 s6 s7 s8 s9 s10 s11 s12 s13 s14 s15 s16 s17 s18 s19 s20 s21 s22 s23 s24 s25 s26 s27 s28 s29 s30 s31 s32 s33 s34 s35 s36 s37 s38 s39 s40 s41 s42 s43 s44 s45 s46 s47 s48 s49 s50 : Value} (hx2 : w0.heap[b]? = some (.cells #[.int .i64 k, .int .i64 n, .slice (some ⟨gb, off, none⟩) 2 c] 25 (0, 0))) (hx4 : w0.heap[b + 1]? = some (.cells #[g0, B0] 86 (0, 0))) (hgb : gb < b) (hc0 : w0.cell? ⟨gb, off, none⟩ = some (.int .i64 xk0)) (hc1 : w0.cell? ⟨gb, off + 1, none⟩ = some (.int .i64 xn0)) (hc2 : w0.cell? ⟨gb, off + 2, none⟩ = some (.slice A0 m0 c0)) (hc3 : w0.cell? ⟨gb, off + 3, none⟩ = some (.int .i64 xk1)) (hc4 : w0.cell? ⟨gb, off + 4, none⟩ = some (.int .i64 xn1)) (hc5 : w0.cell? ⟨gb, off + 5, none⟩ = some (.slice A1 m1 c1)) (hof0 : ∀ w, (∀ k, k < b → w.heap[k]? = w0.heap[k]?) → w0.heap.size ≤ w.heap.size → Calls Try.prog 90 #[.agg #[.int .i64 xk0, .int .i64 xn0, .slice A0 m0 c0]] w (NfGot w (fun _ => False) f0)) (hof1 : ∀ w, (∀ k, k < b → w.heap[k]? = w0.heap[k]?) → w0.heap.size ≤ w.heap.size → Calls Try.prog 90 #[.agg #[.int .i64 xk1, .int .i64 xn1, .slice A1 m1 c1]] w (NfGot w (fun _ => False) f1)) (hf0 : NfOk f0) (hf1 : NfOk f1)
    (hend : ∀ (w' : World) (u44 : Value) (u49 : Value) (u50 : Value) (O4 : Nat → Prop) (O9 : Nat → Prop) (v11 : Value) (O11 : Nat → Prop), Chg (fun k => (fun k => k = b + 1) k ∨ (fun _ => False) k) w0 w' → (NfV (fun _ => False) f0 u44 w' O4) → (∀ k, O4 k → k < w'.heap.size ∧ ¬ Fix w0 (est2 11 0 (fun k => k = b + 1) (fun _ => False)) k) → (NfV (fun _ => False) f1 u49 w' O9) → (∀ k, O9 k → k < w'.heap.size ∧ ¬ Fix w0 (est2 11 0 (fun k => k = b + 1) (fun _ => False)) k) → (NfBoxF (b + 1) (shortN (orN f0 f1)) w' O11) → (∀ k, O11 k → k < w'.heap.size ∧ ¬ Fix w0 (est2 11 0 (fun k => k = b + 1) (fun _ => False)) k) → Q .normal { tmps := (s0 :: (.pointer (some ⟨b, 0, none⟩)) :: (.pointer (some ⟨b + 1, 0, none⟩)) :: s3 :: s4 :: s5 :: s6 :: s7 :: s8 :: s9 :: s10 :: s11 :: s12 :: s13 :: s14 :: s15 :: s16 :: s17 :: s18 :: s19 :: s20 :: s21 :: s22 :: s23 :: s24 :: s25 :: s26 :: s27 :: s28 :: s29 :: s30 :: s31 :: s32 :: s33 :: s34 :: s35 :: s36 :: s37 :: s38 :: s39 :: (.pointer (some ⟨b, 2, none⟩)) :: (.slice (some ⟨gb, off, none⟩) 2 c) :: (.pointer (some ⟨gb, off, none⟩)) :: (.agg #[.int .i64 xk0, .int .i64 xn0, .slice A0 m0 c0]) :: u44 :: (.pointer (some ⟨b, 2, none⟩)) :: (.slice (some ⟨gb, off, none⟩) 2 c) :: (.pointer (some ⟨gb, off + 3, none⟩)) :: (.agg #[.int .i64 xk1, .int .i64 xn1, .slice A1 m1 c1]) :: u49 :: u50 :: [] : List Value).toArray, defers := [] } w') :
    (Code.region id rn2_ops.toArray true).wp Try.prog Q { tmps := (s0 :: (.pointer (some ⟨b, 0, none⟩)) :: (.pointer (some ⟨b + 1, 0, none⟩)) :: s3 :: s4 :: s5 :: s6 :: s7 :: s8 :: s9 :: s10 :: s11 :: s12 :: s13 :: s14 :: s15 :: s16 :: s17 :: s18 :: s19 :: s20 :: s21 :: s22 :: s23 :: s24 :: s25 :: s26 :: s27 :: s28 :: s29 :: s30 :: s31 :: s32 :: s33 :: s34 :: s35 :: s36 :: s37 :: s38 :: s39 :: s40 :: s41 :: s42 :: s43 :: s44 :: s45 :: s46 :: s47 :: s48 :: s49 :: s50 :: [] : List Value).toArray, defers := [] } w0 := by
  refine wp_region_est (by kernel_rfl) (est2 11 0 (fun k => k = b + 1) (fun _ => False)) rn2_C (rn2_F w0 b k n gb off c g0 B0 xk0 xn0 A0 m0 c0 f0 xk1 xn1 A1 m1 c1 f1 ) (est2_dis (fun k h1 h2 => h2)) (est2_range (fun k h => by have := blk_lt hx4; omega) (fun k h => h.elim)) (by rfl) (by kernel_rfl) (rn2_obs w0.drew b k n gb off c g0 B0 xk0 xn0 A0 m0 c0 f0 xk1 xn1 A1 m1 c1 f1  hx2 hx4 hgb hc0 hc1 hc2 hc3 hc4 hc5 hof0 hof1 hf0 hf1 _ _ rfl rfl) ?_
  intro a w' O hd hs hb hf hf2 ha hsame
  have hl := slots_eq (ops := rn2_ops.toArray) [(40, .pointer (some ⟨b, 2, none⟩)), (41, .slice (some ⟨gb, off, none⟩) 2 c), (42, .pointer (some ⟨gb, off, none⟩)), (43, .agg #[.int .i64 xk0, .int .i64 xn0, .slice A0 m0 c0]), (44, a.tmps.getD 44 undef), (45, .pointer (some ⟨b, 2, none⟩)), (46, .slice (some ⟨gb, off, none⟩) 2 c), (47, .pointer (some ⟨gb, off + 3, none⟩)), (48, .agg #[.int .i64 xk1, .int .i64 xn1, .slice A1 m1 c1]), (49, a.tmps.getD 49 undef), (50, a.tmps.getD 50 undef)] (show a.tmps.size = 51 from hs) (fun i h => hsame i h) ⟨(hf 0 _ 40 rfl rfl (by decide)).1, (hf 1 _ 41 rfl rfl (by decide)).1, (hf 2 _ 42 rfl rfl (by decide)).1, (hf 3 _ 43 rfl rfl (by decide)).1, rfl, (hf 5 _ 45 rfl rfl (by decide)).1, (hf 6 _ 46 rfl rfl (by decide)).1, (hf 7 _ 47 rfl rfl (by decide)).1, (hf 8 _ 48 rfl rfl (by decide)).1, rfl, rfl, trivial⟩ (by kernel_rfl)
  obtain ⟨tmps, defers⟩ := a
  obtain rfl : defers = [] := hd
  have hl' : tmps = _ := hl
  rw [hl']
  obtain ⟨⟨v11, hv11⟩, ho11⟩ := hf2 11 _ rfl rfl (by decide)
  have hb' := est2_chg hb
  refine Eq.mp ?_ (hend w' (tmps.getD 44 undef) (tmps.getD 49 undef) (tmps.getD 50 undef) (O 4) (O 9) v11 (O 11) ⟨hb'.os, hb'.tape, hb'.output, hb'.size, hb'.block⟩ (hf 4 _ 44 rfl rfl (by decide)).1 (hf 4 _ 44 rfl rfl (by decide)).2 (hf 9 _ 49 rfl rfl (by decide)).1 (hf 9 _ 49 rfl rfl (by decide)).2 hv11 ho11)
  kernel_rfl

end Go.Proofs.Ytdboloabpjmgaaa

/-! RfN -/
namespace Go.Proofs.Ytdboloabpjmgaaa
open Go.RowKit Go.Proofs.YtdboloabpjmgaaaW.PrintWords Go.RegionInvYtdboloabpjmgaaa Go.RegionEYtdboloabpjmgaaa

abbrev rnW (w : World) (A : Option Addr) (m c : Nat) (k n : Int) : World := (w.alloc (.cells #[.int .i64 k, .int .i64 n, .slice A m c] 25 (0, 0))).alloc (.cells #[.int .i64 0, .slice none 0 0] 86 (0, 0))
theorem got_boxF {w w1 w' : World} {f : Nf} {O : Nat → Prop} (hb1 : Below w.heap.size w w1) (h : NfBoxF (w.heap.size + 1) f w' O) (hc : Chg (fun k => (fun k => k = w.heap.size + 1) k ∨ (fun _ => False) k) w1 w') (hO : ∀ k, O k → w.heap.size ≤ k) :
    ∃ A n cap, w'.heap[w.heap.size + 1]? = some (.cells #[.int .i64 f.1, .slice A n cap] 86 (0, 0)) ∧ NfGot w (fun _ => False) f (.returned (.agg #[.int .i64 f.1, .slice A n cap])) w' := by
  obtain ⟨A, n, cap, hb, -, h1, h2⟩ := h
  refine ⟨A, n, cap, hb, A, n, cap, rfl, h1, h2.mono fun b hb _ => .inr (hO b hb.1), Chg.trans_below hb1 hc (fun k h => ?_) hb1.size⟩
  rcases h with h | h
  · have : k = w.heap.size + 1 := h
    omega
  · exact h.elim
theorem rep_snoc (j : Nat) (x : Int) : List.replicate (j + 1) x = List.replicate j x ++ [x] := List.replicate_succ'
set_option maxHeartbeats 8000000 in
theorem refNorm_calls (N : Nat) : ∀ (l : Lv), SizeOf.sizeOf l < N → Good l → ∀ (A : Option Addr) (c : Nat) (w : World), LvIn w w.heap.size A c l →
    Calls Try.prog 90 #[lvV A c l] w (NfGot w (fun _ => False) (shortN (sumP l))) := by
  induction N with
  | zero => intro l h; omega
  | succ N ih =>
    rintro ⟨lk, ln, ks⟩ hN hgood A c w hin
    have IH := Aside0.mk ih
    have HIN := Aside0.mk hin
    have HGOOD := Aside0.mk hgood
    clear ih hin hgood
    unfold lvV
    simp only [Lv.kind, Lv.num, Lv.kids]
    have hb1 : Below w.heap.size w (rnW w A ks.length c lk ln) := below_alloc (below_alloc (Below.refl _ _) _) _
    have hx2 : (rnW w A ks.length c lk ln).heap[w.heap.size]? = some (.cells #[.int .i64 lk, .int .i64 ln, .slice A ks.length c] 25 (0, 0)) := box0 w _ _
    have hx4 : (rnW w A ks.length c lk ln).heap[w.heap.size + 1]? = some (.cells #[.int .i64 0, .slice none 0 0] 86 (0, 0)) := box1 w _ _
    have HB1 := Aside0.mk hb1
    have HX2 := Aside0.mk hx2
    have HX4 := Aside0.mk hx4
    have hz1 : (rnW w A ks.length c lk ln).heap.size = w.heap.size + 2 := by simp [rnW]
    have HZ1 := Aside0.mk hz1
    clear hb1 hx2 hx4 hz1
    rcases good_cases HGOOD.out with ⟨rfl, rfl, h0, h1⟩ | ⟨rfl, rfl, h0, h1⟩ | ⟨rfl, x, rfl, h0, h1, hx⟩ | ⟨rfl, x, y, rfl, hx, hy⟩
    · -- a number
      rw [num_sum, short_num]
      obtain ⟨d0, d1, -, -⟩ := row2 HX4.out
      clear HGOOD
      go_enter Try.func90, Try.ntmps90
      go_wp2
      refine bodyPost_ret (results_c rfl _ _ (w.heap.size + 1) 86 #[.int .i64 ln, .slice none 0 0] (0, 0) _ rfl (box1 w _ _) Try.underlying86 rfl (by kernel_rfl)) rfl ?_
      exact ⟨none, 0, 0, rfl, Nat.le_refl _, IntsS.nil _ _, below_alloc (below_alloc (Below.refl _ _) _) _⟩
    · -- a variable
      obtain ⟨i, rfl⟩ := Int.eq_ofNat_of_zero_le h0
      have HE := Aside0.mk (show shortN (sumP (.mk 2 (i : Int) [])) = (0, List.replicate i (-1) ++ [0]) by rw [var_sum, short_var])
      clear HGOOD
      obtain ⟨W, hW⟩ : ∃ W, W = (rnW w A 0 c 2 i).alloc (.cells #[.int .i64 0, .slice none 0 0] 86 (0, 0)) := ⟨_, rfl⟩
      have hst : MkF w W (w.heap.size + 1 + 1) 0 (.slice none 0 0) [] := by
        rw [hW]
        refine ⟨?_, own_nil _ _ _ _, below_alloc HB1.out _⟩
        have := blk_new (rnW w A 0 c 2 i) (.cells #[.int .i64 0, .slice none 0 0] 86 (0, 0))
        simpa [rnW] using this
      have HST := Aside0.mk hst
      have HRES := Aside0.mk (show W.heap[w.heap.size + 1]? = some (.cells #[.int .i64 0, .slice none 0 0] 86 (0, 0)) by rw [hW]; exact blk_alloc HX4.out _)
      have HL := Aside0.mk (show W.heap[w.heap.size]? = some (.cells #[.int .i64 2, .int .i64 i, .slice A 0 c] 25 (0, 0)) by rw [hW]; exact blk_alloc HX2.out _)
      clear hst
      go_enter Try.func90, Try.ntmps90
      go_upto_region 6 with (fail)
      rw [← hW]
      clear hW
      obtain ⟨p0, p1, p2, -, -, -⟩ := row3 HL.out
      go_upto_block 1 with (fail)
      go_cut [] (fun wr => ∃ V, Aside0 (MkF w wr (w.heap.size + 1 + 1) 0 V (List.replicate i (-1))) ∧ Aside0 (wr.heap[w.heap.size + 1]? = some (.cells #[.int .i64 0, .slice none 0 0] 86 (0, 0))))
      case first =>
        clear p0 p1 p2
        go_wp2
        go_loopw [16] (fun k wr => ∃ (j : Nat) (V : Value), k = .int .i64 j ∧ j ≤ i ∧ Aside0 (MkF w wr (w.heap.size + 1 + 1) 0 V (List.replicate j (-1))) ∧ Aside0 (wr.heap[w.heap.size + 1]? = some (.cells #[.int .i64 0, .slice none 0 0] 86 (0, 0)))) (fun k _ => i - (intOf k).toNat)
        case atStart => exact ⟨0, _, rfl, Nat.zero_le _, HST, HRES⟩
        case round =>
          clear HST HRES HL
          obtain ⟨j, V, rfl, hj, HST, HRES⟩ := hrel
          by_cases hlt : j < i
          · obtain ⟨d0, d1, -, e1⟩ := row2 HST.out.box
            obtain ⟨A0, c0, rfl⟩ := own_slice HST.out.row
            obtain ⟨L, hL⟩ : ∃ L, L = (List.replicate j (-1 : Int)).length := ⟨_, rfl⟩
            rw [← hL] at HST d1
            have HLJ := Aside0.mk (show L = j by rw [hL, List.length_replicate])
            have HT := Aside0.mk (rep_snoc j (-1))
            have hbase : w.heap.size + 1 + 1 + 1 ≤ wr.heap.size := blk_lt HST.out.box
            clear hL
            go_wp2_with (first
              | (at_builtin; go_must (refine print_append_num (w0 := wr) (w.heap.size + 1 + 1 + 1) rfl (.tmp 19) (.tmp 20) 84 3 .i64 8 rfl Try.underlying84 infoI64 (by decide) (.slice A0 L c0) (List.replicate j (-1)) (-1) rfl rfl (by have h := HST.out.row; rw [HLJ.out, List.length_replicate] at h; rw [HLJ.out, List.length_replicate]; exact h) (Below.refl _ _) hbase (by rw [List.length_replicate]; omega) ?_; intro v1 w1 ho _ hg _; obtain ⟨A6, L6, c6, rfl, -⟩ := own_slice' ho; have HG := Aside0.mk (HST.out.grow (Nat.le_of_lt (by omega)) ho hg); have HR6 := Aside0.mk (HG.out.2.1 _ _ (by omega) HRES.out); obtain ⟨d0, d1, -, e1⟩ := row2 HG.out.1; clear ho hg)))
            go_roundw
            case rel =>
              refine ⟨j + 1, .slice A6 L6 c6, by go_num, by omega, ⟨?_⟩, ⟨((chg_set w1 (w.heap.size + 1 + 1) 1 _).block _ (blk_lt HR6.out) (by omega)).trans HR6.out⟩⟩
              rw [HT.out]
              exact HG.out.2.2
            case measure => (simp [intOf]; try omega)
          · obtain rfl : j = i := by omega
            have hlt' : decide ((j : Int) < j) = false := by simp
            go_wp2
            go_meet
            case rel => exact ⟨_, HST, HRES⟩
      case rest =>
        clear HST HRES HL p0 p1 p2
        obtain ⟨V, HST, HRES⟩ := hcut
        obtain ⟨d0, d1, -, e1⟩ := row2 HST.out.box
        obtain ⟨A0, c0, rfl⟩ := own_slice HST.out.row
        obtain ⟨L, hL⟩ : ∃ L, L = (List.replicate i (-1 : Int)).length := ⟨_, rfl⟩
        rw [← hL] at HST d1
        have HLJ := Aside0.mk (show L = i by rw [hL, List.length_replicate])
        have hbase : w.heap.size + 1 + 1 + 1 ≤ wc.heap.size := blk_lt HST.out.box
        have HLN := Aside0.mk (show (List.replicate i (-1 : Int) ++ [0]).length = i + 1 by simp)
        clear hL
        go_upto_region 11 with (first
          | (at_builtin; go_must (refine print_append_num (w0 := wc) (w.heap.size + 1 + 1 + 1) rfl (.tmp 25) (.tmp 26) 84 3 .i64 8 rfl Try.underlying84 infoI64 (by decide) (.slice A0 L c0) (List.replicate i (-1)) 0 rfl rfl (by have h := HST.out.row; rw [HLJ.out, List.length_replicate] at h; rw [HLJ.out, List.length_replicate]; exact h) (Below.refl _ _) hbase (by rw [List.length_replicate]; omega) ?_; intro v1 w1 ho _ hg _; obtain ⟨A6, c6, hv6, hcap6, hi6⟩ := IntsS.of_own ho; rw [HLN.out] at hv6 hcap6 hi6; subst hv6; have HCAP6 := Aside0.mk hcap6; have HI6 := Aside0.mk hi6; clear hcap6 hi6; have HG := Aside0.mk (HST.out.grow (Nat.le_of_lt (by omega)) ho hg); have HR6 := Aside0.mk (HG.out.2.1 _ _ (by omega) HRES.out); obtain ⟨d0, d1, -, e1⟩ := row2 HG.out.1; clear ho hg)))
        have HM := Aside0.mk HG.out.2.2
        have hch0 := chg_set w1 (w.heap.size + 1 + 1) 1 (.slice A6 (i + 1) c6)
        have HR7 := Aside0.mk ((hch0.block _ (blk_lt HR6.out) (by omega)).trans HR6.out)
        have HI7 := Aside0.mk (HI6.out.same fun b hb hz => hch0.block b hz (by omega))
        obtain ⟨W2, hW2⟩ : ∃ W2, W2 = w1.setCell ⟨w.heap.size + 1 + 1, 1, none⟩ (.slice A6 (i + 1) c6) := ⟨_, rfl⟩
        rw [← hW2] at HM HR7 HI7 ⊢
        clear hW2 hch0 HG HR6 HI6 d0 d1 e1
        obtain ⟨d0, d1, -, -⟩ := row2 HM.out.box
        obtain ⟨f0, f1, g0, g1⟩ := row2 HR7.out
        go_wp2
        have hch := chg_set2 W2 (w.heap.size + 1) (.int .i64 0) (.slice A6 (i + 1) c6)
        refine bodyPost_ret (results_c rfl _ _ (w.heap.size + 1) 86 #[.int .i64 0, .slice A6 (i + 1) c6] (0, 0) _ rfl (set2 HR7.out) Try.underlying86 rfl (by kernel_rfl)) rfl ?_
        rw [HE.out]
        exact ⟨A6, i + 1, c6, rfl, HCAP6.out, (HI7.out.same fun b hb hz => hch.block b hz (by omega)).mono fun b hb _ => .inr (by omega), Chg.trans_below HM.out.bel hch (fun _ e => by omega) HM.out.bel.size⟩
    · -- so much more
      obtain ⟨A', c', hcs, hxin⟩ := HIN.out.kid 0 x rfl
      obtain ⟨gb, off, rfl, hgb⟩ := kid_ptr hcs
      have hc := lit_kid (hcs.same (w' := rnW w (some ⟨gb, off, none⟩) [x].length c 3 ln) fun k hk _ => HB1.out.block k hk)
      have hsok : NfOk (sumP x) := ofP_ok (fun _ h => by cases h) hx
      have HOK := Aside0.mk (short_ok hsok)
      have HE := Aside0.mk (show shortN (sumP (.mk 3 ln [x])) = shortN (plusR ln (shortN (sumP x))) by rw [short_plus hsok (by omega) h1]; show shortN (ofP [] _) = _; rw [ofP_succ]; rfl)
      have HXIN := Aside0.mk hxin
      have HC := Aside0.mk hc
      have HX := Aside0.mk hx
      clear hcs hc hx hxin HGOOD hsok
      rw [HE.out]
      go_enter Try.func90, Try.ntmps90
      go_upto_region 13 with (fail)
      refine rn1_region (rnW w (some ⟨gb, off, none⟩) [x].length c 3 ln) w.heap.size 3 ln gb off 1 c (.int .i64 0) (.slice none 0 0) x.kind x.num A' x.kids.length c' (shortN (sumP x)) HX2.out HX4.out hgb HC.out.1 HC.out.2.1 HC.out.2.2 (fun w5 hw5 hz5 => ?_) (by decide) (by omega) h1 HOK.out ?_
      · have hkid := kid_small (k := 3) (n := ln) (ks := [x]) (i := 0) (x := x) rfl
        exact IH.out x (by omega) HX.out A' c' w5 (LvS.all (HXIN.out.same fun k hk _ => (hw5 k hk).trans (HB1.out.block k hk)))
      · intro w' u36 u39 O4 v8 O8 hch _ _ hbox ho8
        obtain ⟨A6, n6, cap6, hb6, hgot⟩ := got_boxF HB1.out hbox hch (fun k hk => Nat.le_of_succ_le (fix_not (ho8 k hk).2 (fun i h => h.elim And.right fun h => h.2.elim) (by rw [HZ1.out]; omega)))
        have HG := Aside0.mk hgot
        have HB6 := Aside0.mk hb6
        clear hch hbox ho8 hb6 hgot
        go_wp2
        exact bodyPost_ret (results_c rfl _ _ (w.heap.size + 1) 86 #[.int .i64 (shortN (plusR ln (shortN (sumP x)))).1, .slice A6 n6 cap6] (0, 0) _ rfl HB6.out Try.underlying86 rfl (by kernel_rfl)) rfl HG.out
    · -- the greater one of two
      obtain ⟨A', c', hcs, hxin⟩ := HIN.out.kid 0 x rfl
      obtain ⟨A'', c'', hcs', hyin⟩ := HIN.out.kid 1 y rfl
      obtain ⟨gb, off, rfl, hgb⟩ := kid_ptr hcs
      have hc := lit_kid (hcs.same (w' := rnW w (some ⟨gb, off, none⟩) [x, y].length c 4 ln) fun k hk _ => HB1.out.block k hk)
      have hc' := lit_kid (hcs'.same (w' := rnW w (some ⟨gb, off, none⟩) [x, y].length c 4 ln) fun k hk _ => HB1.out.block k hk)
      have hsx : NfOk (sumP x) := ofP_ok (fun _ h => by cases h) hx
      have hsy : NfOk (sumP y) := ofP_ok (fun _ h => by cases h) hy
      have HOK := Aside0.mk (short_ok hsx)
      have HOK' := Aside0.mk (short_ok hsy)
      have HE := Aside0.mk (show shortN (sumP (.mk 4 ln [x, y])) = shortN (orN (shortN (sumP x)) (shortN (sumP y))) by rw [short_or hsx hsy]; show shortN (ofP [] _) = _; rw [ofP_max]; rfl)
      have HXIN := Aside0.mk hxin
      have HYIN := Aside0.mk hyin
      have HC := Aside0.mk hc
      have HC' := Aside0.mk hc'
      have HX := Aside0.mk hx
      have HY := Aside0.mk hy
      clear hcs hc hx hxin hcs' hc' hy hyin HGOOD hsx hsy
      rw [HE.out]
      go_enter Try.func90, Try.ntmps90
      go_upto_region 14 with (fail)
      refine rn2_region (rnW w (some ⟨gb, off, none⟩) [x, y].length c 4 ln) w.heap.size 4 ln gb off c (.int .i64 0) (.slice none 0 0) x.kind x.num A' x.kids.length c' (shortN (sumP x)) y.kind y.num A'' y.kids.length c'' (shortN (sumP y)) HX2.out HX4.out hgb HC.out.1 HC.out.2.1 HC.out.2.2 HC'.out.1 HC'.out.2.1 HC'.out.2.2 (fun w5 hw5 hz5 => ?_) (fun w5 hw5 hz5 => ?_) HOK.out HOK'.out ?_
      · have hkid := kid_small (k := 4) (n := ln) (ks := [x, y]) (i := 0) (x := x) rfl
        exact IH.out x (by omega) HX.out A' c' w5 (LvS.all (HXIN.out.same fun k hk _ => (hw5 k hk).trans (HB1.out.block k hk)))
      · have hkid := kid_small (k := 4) (n := ln) (ks := [x, y]) (i := 1) (x := y) rfl
        exact IH.out y (by omega) HY.out A'' c'' w5 (LvS.all (HYIN.out.same fun k hk _ => (hw5 k hk).trans (HB1.out.block k hk)))
      · intro w' u44 u49 u50 O4 O9 v11 O11 hch _ _ _ _ hbox ho11
        obtain ⟨A6, n6, cap6, hb6, hgot⟩ := got_boxF HB1.out hbox hch (fun k hk => Nat.le_of_succ_le (fix_not (ho11 k hk).2 (fun i h => h.elim And.right fun h => h.2.elim) (by rw [HZ1.out]; omega)))
        have HG := Aside0.mk hgot
        have HB6 := Aside0.mk hb6
        clear hch hbox ho11 hb6 hgot
        go_wp2
        exact bodyPost_ret (results_c rfl _ _ (w.heap.size + 1) 86 #[.int .i64 (shortN (orN (shortN (sumP x)) (shortN (sumP y)))).1, .slice A6 n6 cap6] (0, 0) _ rfl HB6.out Try.underlying86 rfl (by kernel_rfl)) rfl HG.out
end Go.Proofs.Ytdboloabpjmgaaa

/-! Sfm -/
namespace Go.Proofs.Ytdboloabpjmgaaa
open Go.RowKit Go.Proofs.YtdboloabpjmgaaaW.PrintWords Go.RegionInvYtdboloabpjmgaaa Go.RegionEYtdboloabpjmgaaa

theorem form_dec {c d : Int} {xs ys : List Int} : decide ((c, xs) = (d, ys)) = (decide (c = d) && decide (xs = ys)) := by
  simp [Prod.mk.injEq, Bool.decide_and]
set_option maxRecDepth 100000 in
set_option maxHeartbeats 4000000 in
theorem sameForm_calls (A B : Option Addr) (n m cap cap' : Nat) (c d : Int) (xs ys : List Int) (w : World) (hx : ReadsInt w .i64 A n xs) (hy : ReadsInt w .i64 B m ys) :
    Calls Try.prog 122 #[.agg #[.int .i64 c, .slice A n cap], .agg #[.int .i64 d, .slice B m cap']] w fun e w' => e = .returned (.bool (decide ((c, xs) = (d, ys)))) ∧ Below w.heap.size w w' := by
  have HX := Aside0.mk hx
  have HY := Aside0.mk hy
  have hn9 := hx.2.1
  have hm9 := hy.2.1
  have HN := Aside0.mk hx.1
  have HM := Aside0.mk hy.1
  obtain ⟨W, hW⟩ : ∃ W, W = (w.alloc (.cells #[.int .i64 c, .slice A n cap] 86 (0, 0))).alloc (.cells #[.int .i64 d, .slice B m cap'] 86 (0, 0)) := ⟨_, rfl⟩
  have hb : Below w.heap.size w W := by rw [hW]; exact below_alloc (below_alloc (Below.refl _ _) _) _
  have HA := Aside0.mk (show W.heap[w.heap.size]? = some (.cells #[.int .i64 c, .slice A n cap] 86 (0, 0)) by rw [hW]; exact box0 w _ _)
  have HC := Aside0.mk (show W.heap[w.heap.size + 1]? = some (.cells #[.int .i64 d, .slice B m cap'] 86 (0, 0)) by rw [hW]; exact box1 w _ _)
  have HB := Aside0.mk hb
  clear hx hy hb
  go_enter Try.func122, Try.ntmps122
  go_upto_region 1 with (fail)
  rw [← hW]
  clear hW
  obtain ⟨p0, p1, -, -⟩ := row2 HA.out
  obtain ⟨q0, q1, -, -⟩ := row2 HC.out
  by_cases hcd : c = d
  · have bc : (c != d) = false := by simp [hcd]
    have HCD := Aside0.mk hcd
    clear hcd
    by_cases hnm : n = m
    · subst hnm
      have bn : ((n : Int) != (n : Int)) = false := by simp
      go_wp2
      go_loopw [23] (fun i wr => ∃ (j : Nat), i = .int .i64 j ∧ j ≤ n ∧ Aside0 (xs.take j = ys.take j) ∧ Aside0 (Below W.heap.size W wr)) (fun i _ => n - (intOf i).toNat)
      case atStart => exact ⟨0, rfl, Nat.zero_le _, ⟨rfl⟩, ⟨Below.refl _ _⟩⟩
      case round =>
        clear p0 p1 q0 q1
        obtain ⟨j, rfl, hj, HE, HBR⟩ := hrel
        have HBW := Aside0.mk (below_then HB.out HB.out.size HBR.out)
        by_cases hlt : j < n
        · obtain ⟨ad, rfl, hcx⟩ := (HX.out.below HBW.out).at_ j (by omega) (by omega)
          obtain ⟨ad', rfl, hcy⟩ := (HY.out.below HBW.out).at_ j (by omega) (by omega)
          rw [Int.toNat_natCast] at hcx hcy
          obtain ⟨-, p1, -, -⟩ := row2 ((HBR.out.block _ (blk_lt HA.out)).trans HA.out)
          obtain ⟨-, q1, -, -⟩ := row2 ((HBR.out.block _ (blk_lt HC.out)).trans HC.out)
          obtain ⟨x, hxv⟩ : ∃ x, x = rd xs j := ⟨_, rfl⟩
          obtain ⟨y, hyv⟩ : ∃ y, y = rd ys j := ⟨_, rfl⟩
          rw [← hxv] at hcx
          rw [← hyv] at hcy
          have HXV := Aside0.mk hxv
          have HYV := Aside0.mk hyv
          clear hxv hyv
          by_cases hxy : x = y
          · have hbb : (x != y) = false := by simp [hxy]
            have HE' := Aside0.mk (take_next (by rw [HN.out, HM.out]) (by rw [HN.out]; exact hlt) HE.out (by rw [← HXV.out, ← HYV.out, hxy]))
            clear hxy
            go_upto_region 6 with (fail)
            go_region_law (fail)
            all_goals go_wp2
            all_goals exact ⟨⟨j + 1, by go_num, by omega, HE', ⟨below_drew HBR.out⟩⟩, by simp [intOf]; omega⟩
          · have hbb : (x != y) = true := by simp [hxy]
            have HF := Aside0.mk (show decide ((c, xs) = (d, ys)) = false by rw [form_dec, decide_eq_false (p := xs = ys) (take_not (j := j) (by rw [← HXV.out, ← HYV.out]; exact hxy)), Bool.and_false])
            clear hxy
            go_upto_region 6 with (fail)
            go_region_law (fail)
            all_goals go_wp2
            all_goals go_ret
            all_goals exact ⟨by rw [HF.out]; rfl, by repeat' first | exact HBW.out | apply below_drew⟩
        · obtain rfl : j = n := by omega
          have hlt' : decide ((j : Int) < j) = false := by simp
          have HF := Aside0.mk (show decide ((c, xs) = (d, ys)) = true by
            rw [form_dec, decide_eq_true HCD.out, decide_eq_true (p := xs = ys) (by have := HE.out; rwa [List.take_of_length_le (by rw [HN.out]; exact Nat.le_refl _), List.take_of_length_le (by rw [HM.out]; exact Nat.le_refl _)] at this)]
            rfl)
          go_wp2
          go_ret
          exact ⟨by rw [HF.out]; rfl, HBW.out⟩
    · have bn : ((n : Int) != (m : Int)) = true := by simp; omega
      have HF := Aside0.mk (show decide ((c, xs) = (d, ys)) = false by rw [form_dec, decide_eq_false (p := xs = ys) (fun e => hnm (by rw [← HN.out, ← HM.out, e])), Bool.and_false])
      clear hnm
      go_wp2
      go_ret
      exact ⟨by rw [HF.out]; rfl, HB.out⟩
  · have bc : (c != d) = true := by simp [hcd]
    have HF := Aside0.mk (show decide ((c, xs) = (d, ys)) = false by rw [form_dec, decide_eq_false hcd, Bool.false_and])
    clear hcd
    go_wp2
    go_ret
    exact ⟨by rw [HF.out]; rfl, HB.out⟩
end Go.Proofs.Ytdboloabpjmgaaa

/-! Req -/
namespace Go.Proofs.Ytdboloabpjmgaaa
open Go.RowKit Go.Proofs.YtdboloabpjmgaaaW.PrintWords Go.RegionInvYtdboloabpjmgaaa Go.RegionEYtdboloabpjmgaaa
set_option linter.unusedVariables false

def rqn_ops : List Oper := [
  { dst := some 5, op := Go.Op.load 25 (Go.Operand.tmp 2), type := 25, pos := "ref.go:185", after := #[], guard := none },
  { dst := some 6, op := Go.Op.call { callee := Go.Callee.value (Go.Operand.func 72), args := #[Go.Operand.tmp 5], argTypes := #[25] }, type := 4, pos := "ref.go:185", after := #[{ on := 0, ground := Go.Ground.data }], guard := none },
  { dst := some 7, op := Go.Op.move (Go.Operand.tmp 6), type := 4, pos := "ref.go:185", after := #[{ on := 1, ground := Go.Ground.data }, { on := 1, ground := Go.Ground.chain }], guard := none },
  { dst := some 8, op := Go.Op.load 25 (Go.Operand.tmp 3), type := 25, pos := "ref.go:185", after := #[{ on := 2, ground := Go.Ground.guard }], guard := some (2, true) },
  { dst := some 9, op := Go.Op.call { callee := Go.Callee.value (Go.Operand.func 72), args := #[Go.Operand.tmp 8], argTypes := #[25] }, type := 4, pos := "ref.go:185", after := #[{ on := 3, ground := Go.Ground.data }, { on := 2, ground := Go.Ground.chain }, { on := 2, ground := Go.Ground.guard }], guard := some (2, true) },
  { dst := some 10, op := Go.Op.pick (Go.Operand.tmp 7) (Go.Operand.tmp 9) (Go.Operand.const (Go.Value.bool false)), type := 4, pos := "ref.go:185", after := #[{ on := 2, ground := Go.Ground.data }, { on := 4, ground := Go.Ground.data }], guard := none },
  { dst := some 11, op := Go.Op.move (Go.Operand.tmp 10), type := 4, pos := "ref.go:185", after := #[{ on := 5, ground := Go.Ground.data }, { on := 4, ground := Go.Ground.chain }], guard := none },
  { dst := some 12, op := Go.Op.load 25 (Go.Operand.tmp 2), type := 25, pos := "ref.go:185", after := #[{ on := 6, ground := Go.Ground.guard }], guard := some (6, true) },
  { dst := some 13, op := Go.Op.call { callee := Go.Callee.value (Go.Operand.func 90), args := #[Go.Operand.tmp 12], argTypes := #[25] }, type := 86, pos := "ref.go:185", after := #[{ on := 7, ground := Go.Ground.data }, { on := 6, ground := Go.Ground.chain }, { on := 6, ground := Go.Ground.guard }], guard := some (6, true) },
  { dst := some 14, op := Go.Op.load 25 (Go.Operand.tmp 3), type := 25, pos := "ref.go:185", after := #[{ on := 6, ground := Go.Ground.guard }], guard := some (6, true) },
  { dst := some 15, op := Go.Op.call { callee := Go.Callee.value (Go.Operand.func 90), args := #[Go.Operand.tmp 14], argTypes := #[25] }, type := 86, pos := "ref.go:185", after := #[{ on := 9, ground := Go.Ground.data }, { on := 8, ground := Go.Ground.chain }, { on := 6, ground := Go.Ground.guard }], guard := some (6, true) },
  { dst := some 16, op := Go.Op.call { callee := Go.Callee.value (Go.Operand.func 122), args := #[Go.Operand.tmp 13, Go.Operand.tmp 15], argTypes := #[86, 86] }, type := 4, pos := "ref.go:185", after := #[{ on := 8, ground := Go.Ground.data }, { on := 10, ground := Go.Ground.data }, { on := 10, ground := Go.Ground.chain }, { on := 6, ground := Go.Ground.guard }], guard := some (6, true) },
  { dst := some 17, op := Go.Op.pick (Go.Operand.tmp 11) (Go.Operand.tmp 16) (Go.Operand.const (Go.Value.bool false)), type := 4, pos := "ref.go:185", after := #[{ on := 6, ground := Go.Ground.data }, { on := 11, ground := Go.Ground.data }], guard := none },
  { dst := some 4, op := Go.Op.assign (Go.Operand.tmp 17), type := 4, pos := "ref.go:185", after := #[{ on := 12, ground := Go.Ground.data }, { on := 11, ground := Go.Ground.chain }, { on := 0, ground := Go.Ground.phase }, { on := 1, ground := Go.Ground.phase }, { on := 2, ground := Go.Ground.phase }, { on := 3, ground := Go.Ground.phase }, { on := 4, ground := Go.Ground.phase }, { on := 5, ground := Go.Ground.phase }, { on := 6, ground := Go.Ground.phase }, { on := 7, ground := Go.Ground.phase }, { on := 8, ground := Go.Ground.phase }, { on := 9, ground := Go.Ground.phase }, { on := 10, ground := Go.Ground.phase }, { on := 11, ground := Go.Ground.phase }, { on := 12, ground := Go.Ground.phase }], guard := none }]
def rqn_F (w0 : World) (b : Nat) (Aa Ab : Option Addr) (ca cb : Nat) (la lb : Lv) (r : Bool) : Nat → (Nat → Value) → Value → World → (Nat → Prop) → Prop := fun rix => match rix with
  | 0 => fun _ v _ _ => v = lvV Aa ca la
  | 1 => fun _ v _ _ => v = .bool false
  | 2 => fun _ v _ _ => v = .bool false
  | 3 => fun _ v _ _ => v = undef
  | 4 => fun _ v _ _ => v = undef
  | 5 => fun _ v _ _ => v = .bool false
  | 6 => fun _ v _ _ => v = .bool false
  | 7 => fun _ v _ _ => v = undef
  | 8 => fun _ v _ _ => v = undef
  | 9 => fun _ v _ _ => v = undef
  | 10 => fun _ v _ _ => v = undef
  | 11 => fun _ v _ _ => v = undef
  | 12 => fun _ v _ _ => v = .bool false
  | 13 => fun _ v _ _ => v = .bool false
  | _ => fun _ _ _ _ => True
def rqn_C : Nat → List Nat := fun rix => match rix with
  | _ => []
theorem rqn_nw2 : nwB rqn_ops.toArray 2 = true := by kernel_rfl
theorem rqn_nw3 : nwB rqn_ops.toArray 3 = true := by kernel_rfl
set_option maxRecDepth 100000 in
set_option maxHeartbeats 8000000 in
theorem rqn_obs (w0 : World) (b : Nat) (Aa Ab : Option Addr) (ca cb : Nat) (la lb : Lv) (r : Bool) (hx2 : w0.heap[b]? = some (.cells #[.int .i64 la.kind, .int .i64 la.num, .slice Aa la.kids.length ca] 25 (0, 0))) (hx3 : w0.heap[b + 1]? = some (.cells #[.int .i64 lb.kind, .int .i64 lb.num, .slice Ab lb.kids.length cb] 25 (0, 0))) (hina : LvIn w0 w0.heap.size Aa ca la) (hinb : LvIn w0 w0.heap.size Ab cb lb) (hsa : soundB la = false) (Q : Exit → Act → World → Prop) (a0 : Act) (hi2 : a0.tmps.getD 2 undef = .pointer (some ⟨b, 0, none⟩)) (hi3 : a0.tmps.getD 3 undef = .pointer (some ⟨b + 1, 0, none⟩)) :
    ObsE Try.prog rqn_ops.toArray Q (est2 0 0 (fun _ => False) (fun _ => False)) rqn_C (rqn_F w0 b Aa Ab ca cb la lb r) a0 w0 rqn_ops.toArray.toList 0 := by
  have nw2 := rqn_nw2
  have nw3 := rqn_nw3
  refine ⟨?_, ?_, ?_, ?_, ?_, ?_, ?_, ?_, ?_, ?_, ?_, ?_, ?_, ?_, trivial⟩
  · refine ⟨⟨fun τ => stableE_det _, leans_not⟩, ?_⟩
    intro a w O hk
    have e2 : a.eval (.tmp 2) = .pointer (some ⟨b, 0, none⟩) := (hk.init 2 (initialB_of_nw nw2)).trans hi2
    have x2 := hk.world.still hx2 (fun ⟨_, h⟩ => h.elim And.right And.right)
    have x3 := hk.world.still hx3 (fun ⟨_, h⟩ => h.elim And.right And.right)
    have hl := hk.world.size
    have ia := (LvIn.stay hina (hk.world.below (fun k ⟨_, h⟩ => h.elim (fun h => h.2.elim) fun h => h.2.elim) (Nat.le_refl _))).all
    have ib := (LvIn.stay hinb (hk.world.below (fun k ⟨_, h⟩ => h.elim (fun h => h.2.elim) fun h => h.2.elim) (Nat.le_refl _))).all
    exact obE_loadRow rfl e2 x2 Try.underlying25 rfl (by kernel_rfl) (wanted_none rfl) rfl
  · refine ⟨⟨fun τ => stableE_det _, leans_not⟩, ?_⟩
    intro a w O hk
    have e5 : a.eval (.tmp 5) = lvV Aa ca la := hk.fact 0 _ 5 rfl rfl rfl rfl
    have x2 := hk.world.still hx2 (fun ⟨_, h⟩ => h.elim And.right And.right)
    have x3 := hk.world.still hx3 (fun ⟨_, h⟩ => h.elim And.right And.right)
    have hl := hk.world.size
    have ia := (LvIn.stay hina (hk.world.below (fun k ⟨_, h⟩ => h.elim (fun h => h.2.elim) fun h => h.2.elim) (Nat.le_refl _))).all
    have ib := (LvIn.stay hinb (hk.world.below (fun k ⟨_, h⟩ => h.elim (fun h => h.2.elim) fun h => h.2.elim) (Nat.le_refl _))).all
    exact obE_callV #[lvV Aa ca la] rfl rfl rfl rfl (by simp only [List.map_cons, List.map_nil]; rw [e5]) (wanted_none rfl) ((refSound_calls Aa ca la w ia).mono fun e w' h => ⟨by rw [h.1, hsa], h.2⟩)
  · refine ⟨⟨fun τ => stableE_det _, leans_not⟩, ?_⟩
    intro a w O hk
    have e6 : a.eval (.tmp 6) = .bool false := hk.fact 1 _ 6 rfl rfl rfl rfl
    exact toE (ob_move rfl e6 (wanted_none rfl) rfl)
  · refine ⟨⟨fun τ => stableE_det _, leans_not⟩, ?_⟩
    intro a w O hk
    have e3 : a.eval (.tmp 3) = .pointer (some ⟨b + 1, 0, none⟩) := (hk.init 3 (initialB_of_nw nw3)).trans hi3
    have e7 : a.eval (.tmp 7) = .bool false := hk.fact 2 _ 7 rfl rfl rfl rfl
    exact toE (ob_skip (unwanted_of rfl rfl rfl e7 (by decide)) rfl)
  · refine ⟨⟨fun τ => stableE_det _, leans_not⟩, ?_⟩
    intro a w O hk
    have e8 : a.eval (.tmp 8) = undef := hk.fact 3 _ 8 rfl rfl rfl rfl
    have e7 : a.eval (.tmp 7) = .bool false := hk.fact 2 _ 7 rfl rfl rfl rfl
    exact toE (ob_skip (unwanted_of rfl rfl rfl e7 (by decide)) rfl)
  · refine ⟨⟨fun τ => stableE_det _, leans_not⟩, ?_⟩
    intro a w O hk
    have e7 : a.eval (.tmp 7) = .bool false := hk.fact 2 _ 7 rfl rfl rfl rfl
    have e9 : a.eval (.tmp 9) = undef := hk.fact 4 _ 9 rfl rfl rfl rfl
    exact toE (ob_pick rfl e7 rfl (wanted_none rfl) rfl)
  · refine ⟨⟨fun τ => stableE_det _, leans_not⟩, ?_⟩
    intro a w O hk
    have e10 : a.eval (.tmp 10) = .bool false := hk.fact 5 _ 10 rfl rfl rfl rfl
    exact toE (ob_move rfl e10 (wanted_none rfl) rfl)
  · refine ⟨⟨fun τ => stableE_det _, leans_not⟩, ?_⟩
    intro a w O hk
    have e2 : a.eval (.tmp 2) = .pointer (some ⟨b, 0, none⟩) := (hk.init 2 (initialB_of_nw nw2)).trans hi2
    have e11 : a.eval (.tmp 11) = .bool false := hk.fact 6 _ 11 rfl rfl rfl rfl
    exact toE (ob_skip (unwanted_of rfl rfl rfl e11 (by decide)) rfl)
  · refine ⟨⟨fun τ => stableE_det _, leans_not⟩, ?_⟩
    intro a w O hk
    have e12 : a.eval (.tmp 12) = undef := hk.fact 7 _ 12 rfl rfl rfl rfl
    have e11 : a.eval (.tmp 11) = .bool false := hk.fact 6 _ 11 rfl rfl rfl rfl
    exact toE (ob_skip (unwanted_of rfl rfl rfl e11 (by decide)) rfl)
  · refine ⟨⟨fun τ => stableE_det _, leans_not⟩, ?_⟩
    intro a w O hk
    have e3 : a.eval (.tmp 3) = .pointer (some ⟨b + 1, 0, none⟩) := (hk.init 3 (initialB_of_nw nw3)).trans hi3
    have e11 : a.eval (.tmp 11) = .bool false := hk.fact 6 _ 11 rfl rfl rfl rfl
    exact toE (ob_skip (unwanted_of rfl rfl rfl e11 (by decide)) rfl)
  · refine ⟨⟨fun τ => stableE_det _, leans_not⟩, ?_⟩
    intro a w O hk
    have e14 : a.eval (.tmp 14) = undef := hk.fact 9 _ 14 rfl rfl rfl rfl
    have e11 : a.eval (.tmp 11) = .bool false := hk.fact 6 _ 11 rfl rfl rfl rfl
    exact toE (ob_skip (unwanted_of rfl rfl rfl e11 (by decide)) rfl)
  · refine ⟨⟨fun τ => stableE_det _, leans_not⟩, ?_⟩
    intro a w O hk
    have e13 : a.eval (.tmp 13) = undef := hk.fact 8 _ 13 rfl rfl rfl rfl
    have e15 : a.eval (.tmp 15) = undef := hk.fact 10 _ 15 rfl rfl rfl rfl
    have e11 : a.eval (.tmp 11) = .bool false := hk.fact 6 _ 11 rfl rfl rfl rfl
    exact toE (ob_skip (unwanted_of rfl rfl rfl e11 (by decide)) rfl)
  · refine ⟨⟨fun τ => stableE_det _, leans_not⟩, ?_⟩
    intro a w O hk
    have e11 : a.eval (.tmp 11) = .bool false := hk.fact 6 _ 11 rfl rfl rfl rfl
    have e16 : a.eval (.tmp 16) = undef := hk.fact 11 _ 16 rfl rfl rfl rfl
    exact toE (ob_pick rfl e11 rfl (wanted_none rfl) rfl)
  · refine ⟨⟨fun τ => stableE_det _, leans_not⟩, ?_⟩
    intro a w O hk
    have e17 : a.eval (.tmp 17) = .bool false := hk.fact 12 _ 17 rfl rfl rfl rfl
    exact toE (ob_assign rfl e17 (wanted_none rfl) rfl)
set_option maxRecDepth 100000 in
set_option maxHeartbeats 8000000 in
theorem rqn_region {Q : Exit → Act → World → Prop} {id : Nat} (w0 : World) (b : Nat) (Aa Ab : Option Addr) (ca cb : Nat) (la lb : Lv) (r : Bool) {s0 s1 s4 s5 s6 s7 s8 s9 s10 s11 s12 s13 s14 s15 s16 s17 : Value} (hx2 : w0.heap[b]? = some (.cells #[.int .i64 la.kind, .int .i64 la.num, .slice Aa la.kids.length ca] 25 (0, 0))) (hx3 : w0.heap[b + 1]? = some (.cells #[.int .i64 lb.kind, .int .i64 lb.num, .slice Ab lb.kids.length cb] 25 (0, 0))) (hina : LvIn w0 w0.heap.size Aa ca la) (hinb : LvIn w0 w0.heap.size Ab cb lb) (hsa : soundB la = false)
    (hend : ∀ (w' : World), Chg (fun k => False ∨ False) w0 w' → Q .normal { tmps := (s0 :: s1 :: (.pointer (some ⟨b, 0, none⟩)) :: (.pointer (some ⟨b + 1, 0, none⟩)) :: (.bool false) :: (lvV Aa ca la) :: (.bool false) :: (.bool false) :: undef :: undef :: (.bool false) :: (.bool false) :: undef :: undef :: undef :: undef :: undef :: (.bool false) :: [] : List Value).toArray, defers := [] } w') :
    (Code.region id rqn_ops.toArray true).wp Try.prog Q { tmps := (s0 :: s1 :: (.pointer (some ⟨b, 0, none⟩)) :: (.pointer (some ⟨b + 1, 0, none⟩)) :: s4 :: s5 :: s6 :: s7 :: s8 :: s9 :: s10 :: s11 :: s12 :: s13 :: s14 :: s15 :: s16 :: s17 :: [] : List Value).toArray, defers := [] } w0 := by
  refine wp_region_est (by kernel_rfl) (est2 0 0 (fun _ => False) (fun _ => False)) rqn_C (rqn_F w0 b Aa Ab ca cb la lb r) (est2_dis (fun _ h _ => h)) (est2_range (fun _ h => h.elim) (fun _ h => h.elim)) (by rfl) (by kernel_rfl) (rqn_obs w0.drew b Aa Ab ca cb la lb r hx2 hx3 (LvS.later hina (below_drew (Below.refl _ _))) (LvS.later hinb (below_drew (Below.refl _ _))) hsa _ _ rfl rfl) ?_
  intro a w' O hd hs hb hf hf2 ha hsame
  have hl := slots_eq (ops := rqn_ops.toArray) [(4, .bool false), (5, lvV Aa ca la), (6, .bool false), (7, .bool false), (8, undef), (9, undef), (10, .bool false), (11, .bool false), (12, undef), (13, undef), (14, undef), (15, undef), (16, undef), (17, .bool false)] (show a.tmps.size = 18 from hs) (fun i h => hsame i h) ⟨(hf 13 _ 4 rfl rfl (by decide)).1, (hf 0 _ 5 rfl rfl (by decide)).1, (hf 1 _ 6 rfl rfl (by decide)).1, (hf 2 _ 7 rfl rfl (by decide)).1, (hf 3 _ 8 rfl rfl (by decide)).1, (hf 4 _ 9 rfl rfl (by decide)).1, (hf 5 _ 10 rfl rfl (by decide)).1, (hf 6 _ 11 rfl rfl (by decide)).1, (hf 7 _ 12 rfl rfl (by decide)).1, (hf 8 _ 13 rfl rfl (by decide)).1, (hf 9 _ 14 rfl rfl (by decide)).1, (hf 10 _ 15 rfl rfl (by decide)).1, (hf 11 _ 16 rfl rfl (by decide)).1, (hf 12 _ 17 rfl rfl (by decide)).1, trivial⟩ (by kernel_rfl)
  obtain ⟨tmps, defers⟩ := a
  obtain rfl : defers = [] := hd
  have hl' : tmps = _ := hl
  rw [hl']
  have hb' := est2_chg hb
  refine Eq.mp ?_ (hend w' ⟨hb'.os, hb'.tape, hb'.output, hb'.size, hb'.block⟩)
  kernel_rfl

def rqm_F (w0 : World) (b : Nat) (Aa Ab : Option Addr) (ca cb : Nat) (la lb : Lv) (r : Bool) : Nat → (Nat → Value) → Value → World → (Nat → Prop) → Prop := fun rix => match rix with
  | 0 => fun _ v _ _ => v = lvV Aa ca la
  | 1 => fun _ v _ _ => v = .bool true
  | 2 => fun _ v _ _ => v = .bool true
  | 3 => fun _ v _ _ => v = lvV Ab cb lb
  | 4 => fun _ v _ _ => v = .bool false
  | 5 => fun _ v _ _ => v = .bool false
  | 6 => fun _ v _ _ => v = .bool false
  | 7 => fun _ v _ _ => v = undef
  | 8 => fun _ v _ _ => v = undef
  | 9 => fun _ v _ _ => v = undef
  | 10 => fun _ v _ _ => v = undef
  | 11 => fun _ v _ _ => v = undef
  | 12 => fun _ v _ _ => v = .bool false
  | 13 => fun _ v _ _ => v = .bool false
  | _ => fun _ _ _ _ => True
def rqm_C : Nat → List Nat := fun rix => match rix with
  | _ => []
theorem rqm_nw2 : nwB rqn_ops.toArray 2 = true := by kernel_rfl
theorem rqm_nw3 : nwB rqn_ops.toArray 3 = true := by kernel_rfl
set_option maxRecDepth 100000 in
set_option maxHeartbeats 8000000 in
theorem rqm_obs (w0 : World) (b : Nat) (Aa Ab : Option Addr) (ca cb : Nat) (la lb : Lv) (r : Bool) (hx2 : w0.heap[b]? = some (.cells #[.int .i64 la.kind, .int .i64 la.num, .slice Aa la.kids.length ca] 25 (0, 0))) (hx3 : w0.heap[b + 1]? = some (.cells #[.int .i64 lb.kind, .int .i64 lb.num, .slice Ab lb.kids.length cb] 25 (0, 0))) (hina : LvIn w0 w0.heap.size Aa ca la) (hinb : LvIn w0 w0.heap.size Ab cb lb) (hsa : soundB la = true) (hsb : soundB lb = false) (Q : Exit → Act → World → Prop) (a0 : Act) (hi2 : a0.tmps.getD 2 undef = .pointer (some ⟨b, 0, none⟩)) (hi3 : a0.tmps.getD 3 undef = .pointer (some ⟨b + 1, 0, none⟩)) :
    ObsE Try.prog rqn_ops.toArray Q (est2 0 0 (fun _ => False) (fun _ => False)) rqm_C (rqm_F w0 b Aa Ab ca cb la lb r) a0 w0 rqn_ops.toArray.toList 0 := by
  have nw2 := rqm_nw2
  have nw3 := rqm_nw3
  refine ⟨?_, ?_, ?_, ?_, ?_, ?_, ?_, ?_, ?_, ?_, ?_, ?_, ?_, ?_, trivial⟩
  · refine ⟨⟨fun τ => stableE_det _, leans_not⟩, ?_⟩
    intro a w O hk
    have e2 : a.eval (.tmp 2) = .pointer (some ⟨b, 0, none⟩) := (hk.init 2 (initialB_of_nw nw2)).trans hi2
    have x2 := hk.world.still hx2 (fun ⟨_, h⟩ => h.elim And.right And.right)
    have x3 := hk.world.still hx3 (fun ⟨_, h⟩ => h.elim And.right And.right)
    have hl := hk.world.size
    have ia := (LvIn.stay hina (hk.world.below (fun k ⟨_, h⟩ => h.elim (fun h => h.2.elim) fun h => h.2.elim) (Nat.le_refl _))).all
    have ib := (LvIn.stay hinb (hk.world.below (fun k ⟨_, h⟩ => h.elim (fun h => h.2.elim) fun h => h.2.elim) (Nat.le_refl _))).all
    exact obE_loadRow rfl e2 x2 Try.underlying25 rfl (by kernel_rfl) (wanted_none rfl) rfl
  · refine ⟨⟨fun τ => stableE_det _, leans_not⟩, ?_⟩
    intro a w O hk
    have e5 : a.eval (.tmp 5) = lvV Aa ca la := hk.fact 0 _ 5 rfl rfl rfl rfl
    have x2 := hk.world.still hx2 (fun ⟨_, h⟩ => h.elim And.right And.right)
    have x3 := hk.world.still hx3 (fun ⟨_, h⟩ => h.elim And.right And.right)
    have hl := hk.world.size
    have ia := (LvIn.stay hina (hk.world.below (fun k ⟨_, h⟩ => h.elim (fun h => h.2.elim) fun h => h.2.elim) (Nat.le_refl _))).all
    have ib := (LvIn.stay hinb (hk.world.below (fun k ⟨_, h⟩ => h.elim (fun h => h.2.elim) fun h => h.2.elim) (Nat.le_refl _))).all
    exact obE_callV #[lvV Aa ca la] rfl rfl rfl rfl (by simp only [List.map_cons, List.map_nil]; rw [e5]) (wanted_none rfl) ((refSound_calls Aa ca la w ia).mono fun e w' h => ⟨by rw [h.1, hsa], h.2⟩)
  · refine ⟨⟨fun τ => stableE_det _, leans_not⟩, ?_⟩
    intro a w O hk
    have e6 : a.eval (.tmp 6) = .bool true := hk.fact 1 _ 6 rfl rfl rfl rfl
    exact toE (ob_move rfl e6 (wanted_none rfl) rfl)
  · refine ⟨⟨fun τ => stableE_det _, leans_not⟩, ?_⟩
    intro a w O hk
    have e3 : a.eval (.tmp 3) = .pointer (some ⟨b + 1, 0, none⟩) := (hk.init 3 (initialB_of_nw nw3)).trans hi3
    have e7 : a.eval (.tmp 7) = .bool true := hk.fact 2 _ 7 rfl rfl rfl rfl
    have x2 := hk.world.still hx2 (fun ⟨_, h⟩ => h.elim And.right And.right)
    have x3 := hk.world.still hx3 (fun ⟨_, h⟩ => h.elim And.right And.right)
    have hl := hk.world.size
    have ia := (LvIn.stay hina (hk.world.below (fun k ⟨_, h⟩ => h.elim (fun h => h.2.elim) fun h => h.2.elim) (Nat.le_refl _))).all
    have ib := (LvIn.stay hinb (hk.world.below (fun k ⟨_, h⟩ => h.elim (fun h => h.2.elim) fun h => h.2.elim) (Nat.le_refl _))).all
    exact obE_loadRow rfl e3 x3 Try.underlying25 rfl (by kernel_rfl) (wanted_of rfl rfl rfl e7) rfl
  · refine ⟨⟨fun τ => stableE_det _, leans_not⟩, ?_⟩
    intro a w O hk
    have e8 : a.eval (.tmp 8) = lvV Ab cb lb := hk.fact 3 _ 8 rfl rfl rfl rfl
    have e7 : a.eval (.tmp 7) = .bool true := hk.fact 2 _ 7 rfl rfl rfl rfl
    have x2 := hk.world.still hx2 (fun ⟨_, h⟩ => h.elim And.right And.right)
    have x3 := hk.world.still hx3 (fun ⟨_, h⟩ => h.elim And.right And.right)
    have hl := hk.world.size
    have ia := (LvIn.stay hina (hk.world.below (fun k ⟨_, h⟩ => h.elim (fun h => h.2.elim) fun h => h.2.elim) (Nat.le_refl _))).all
    have ib := (LvIn.stay hinb (hk.world.below (fun k ⟨_, h⟩ => h.elim (fun h => h.2.elim) fun h => h.2.elim) (Nat.le_refl _))).all
    exact obE_callV #[lvV Ab cb lb] rfl rfl rfl rfl (by simp only [List.map_cons, List.map_nil]; rw [e8]) (wanted_of rfl rfl rfl e7) ((refSound_calls Ab cb lb w ib).mono fun e w' h => ⟨by rw [h.1, hsb], h.2⟩)
  · refine ⟨⟨fun τ => stableE_det _, leans_not⟩, ?_⟩
    intro a w O hk
    have e7 : a.eval (.tmp 7) = .bool true := hk.fact 2 _ 7 rfl rfl rfl rfl
    have e9 : a.eval (.tmp 9) = .bool false := hk.fact 4 _ 9 rfl rfl rfl rfl
    exact toE (ob_pick rfl e7 e9 (wanted_none rfl) rfl)
  · refine ⟨⟨fun τ => stableE_det _, leans_not⟩, ?_⟩
    intro a w O hk
    have e10 : a.eval (.tmp 10) = .bool false := hk.fact 5 _ 10 rfl rfl rfl rfl
    exact toE (ob_move rfl e10 (wanted_none rfl) rfl)
  · refine ⟨⟨fun τ => stableE_det _, leans_not⟩, ?_⟩
    intro a w O hk
    have e2 : a.eval (.tmp 2) = .pointer (some ⟨b, 0, none⟩) := (hk.init 2 (initialB_of_nw nw2)).trans hi2
    have e11 : a.eval (.tmp 11) = .bool false := hk.fact 6 _ 11 rfl rfl rfl rfl
    exact toE (ob_skip (unwanted_of rfl rfl rfl e11 (by decide)) rfl)
  · refine ⟨⟨fun τ => stableE_det _, leans_not⟩, ?_⟩
    intro a w O hk
    have e12 : a.eval (.tmp 12) = undef := hk.fact 7 _ 12 rfl rfl rfl rfl
    have e11 : a.eval (.tmp 11) = .bool false := hk.fact 6 _ 11 rfl rfl rfl rfl
    exact toE (ob_skip (unwanted_of rfl rfl rfl e11 (by decide)) rfl)
  · refine ⟨⟨fun τ => stableE_det _, leans_not⟩, ?_⟩
    intro a w O hk
    have e3 : a.eval (.tmp 3) = .pointer (some ⟨b + 1, 0, none⟩) := (hk.init 3 (initialB_of_nw nw3)).trans hi3
    have e11 : a.eval (.tmp 11) = .bool false := hk.fact 6 _ 11 rfl rfl rfl rfl
    exact toE (ob_skip (unwanted_of rfl rfl rfl e11 (by decide)) rfl)
  · refine ⟨⟨fun τ => stableE_det _, leans_not⟩, ?_⟩
    intro a w O hk
    have e14 : a.eval (.tmp 14) = undef := hk.fact 9 _ 14 rfl rfl rfl rfl
    have e11 : a.eval (.tmp 11) = .bool false := hk.fact 6 _ 11 rfl rfl rfl rfl
    exact toE (ob_skip (unwanted_of rfl rfl rfl e11 (by decide)) rfl)
  · refine ⟨⟨fun τ => stableE_det _, leans_not⟩, ?_⟩
    intro a w O hk
    have e13 : a.eval (.tmp 13) = undef := hk.fact 8 _ 13 rfl rfl rfl rfl
    have e15 : a.eval (.tmp 15) = undef := hk.fact 10 _ 15 rfl rfl rfl rfl
    have e11 : a.eval (.tmp 11) = .bool false := hk.fact 6 _ 11 rfl rfl rfl rfl
    exact toE (ob_skip (unwanted_of rfl rfl rfl e11 (by decide)) rfl)
  · refine ⟨⟨fun τ => stableE_det _, leans_not⟩, ?_⟩
    intro a w O hk
    have e11 : a.eval (.tmp 11) = .bool false := hk.fact 6 _ 11 rfl rfl rfl rfl
    have e16 : a.eval (.tmp 16) = undef := hk.fact 11 _ 16 rfl rfl rfl rfl
    exact toE (ob_pick rfl e11 rfl (wanted_none rfl) rfl)
  · refine ⟨⟨fun τ => stableE_det _, leans_not⟩, ?_⟩
    intro a w O hk
    have e17 : a.eval (.tmp 17) = .bool false := hk.fact 12 _ 17 rfl rfl rfl rfl
    exact toE (ob_assign rfl e17 (wanted_none rfl) rfl)
set_option maxRecDepth 100000 in
set_option maxHeartbeats 8000000 in
theorem rqm_region {Q : Exit → Act → World → Prop} {id : Nat} (w0 : World) (b : Nat) (Aa Ab : Option Addr) (ca cb : Nat) (la lb : Lv) (r : Bool) {s0 s1 s4 s5 s6 s7 s8 s9 s10 s11 s12 s13 s14 s15 s16 s17 : Value} (hx2 : w0.heap[b]? = some (.cells #[.int .i64 la.kind, .int .i64 la.num, .slice Aa la.kids.length ca] 25 (0, 0))) (hx3 : w0.heap[b + 1]? = some (.cells #[.int .i64 lb.kind, .int .i64 lb.num, .slice Ab lb.kids.length cb] 25 (0, 0))) (hina : LvIn w0 w0.heap.size Aa ca la) (hinb : LvIn w0 w0.heap.size Ab cb lb) (hsa : soundB la = true) (hsb : soundB lb = false)
    (hend : ∀ (w' : World), Chg (fun k => False ∨ False) w0 w' → Q .normal { tmps := (s0 :: s1 :: (.pointer (some ⟨b, 0, none⟩)) :: (.pointer (some ⟨b + 1, 0, none⟩)) :: (.bool false) :: (lvV Aa ca la) :: (.bool true) :: (.bool true) :: (lvV Ab cb lb) :: (.bool false) :: (.bool false) :: (.bool false) :: undef :: undef :: undef :: undef :: undef :: (.bool false) :: [] : List Value).toArray, defers := [] } w') :
    (Code.region id rqn_ops.toArray true).wp Try.prog Q { tmps := (s0 :: s1 :: (.pointer (some ⟨b, 0, none⟩)) :: (.pointer (some ⟨b + 1, 0, none⟩)) :: s4 :: s5 :: s6 :: s7 :: s8 :: s9 :: s10 :: s11 :: s12 :: s13 :: s14 :: s15 :: s16 :: s17 :: [] : List Value).toArray, defers := [] } w0 := by
  refine wp_region_est (by kernel_rfl) (est2 0 0 (fun _ => False) (fun _ => False)) rqm_C (rqm_F w0 b Aa Ab ca cb la lb r) (est2_dis (fun _ h _ => h)) (est2_range (fun _ h => h.elim) (fun _ h => h.elim)) (by rfl) (by kernel_rfl) (rqm_obs w0.drew b Aa Ab ca cb la lb r hx2 hx3 (LvS.later hina (below_drew (Below.refl _ _))) (LvS.later hinb (below_drew (Below.refl _ _))) hsa hsb _ _ rfl rfl) ?_
  intro a w' O hd hs hb hf hf2 ha hsame
  have hl := slots_eq (ops := rqn_ops.toArray) [(4, .bool false), (5, lvV Aa ca la), (6, .bool true), (7, .bool true), (8, lvV Ab cb lb), (9, .bool false), (10, .bool false), (11, .bool false), (12, undef), (13, undef), (14, undef), (15, undef), (16, undef), (17, .bool false)] (show a.tmps.size = 18 from hs) (fun i h => hsame i h) ⟨(hf 13 _ 4 rfl rfl (by decide)).1, (hf 0 _ 5 rfl rfl (by decide)).1, (hf 1 _ 6 rfl rfl (by decide)).1, (hf 2 _ 7 rfl rfl (by decide)).1, (hf 3 _ 8 rfl rfl (by decide)).1, (hf 4 _ 9 rfl rfl (by decide)).1, (hf 5 _ 10 rfl rfl (by decide)).1, (hf 6 _ 11 rfl rfl (by decide)).1, (hf 7 _ 12 rfl rfl (by decide)).1, (hf 8 _ 13 rfl rfl (by decide)).1, (hf 9 _ 14 rfl rfl (by decide)).1, (hf 10 _ 15 rfl rfl (by decide)).1, (hf 11 _ 16 rfl rfl (by decide)).1, (hf 12 _ 17 rfl rfl (by decide)).1, trivial⟩ (by kernel_rfl)
  obtain ⟨tmps, defers⟩ := a
  obtain rfl : defers = [] := hd
  have hl' : tmps = _ := hl
  rw [hl']
  have hb' := est2_chg hb
  refine Eq.mp ?_ (hend w' ⟨hb'.os, hb'.tape, hb'.output, hb'.size, hb'.block⟩)
  kernel_rfl

def rqy_F (w0 : World) (b : Nat) (Aa Ab : Option Addr) (ca cb : Nat) (la lb : Lv) (r : Bool) : Nat → (Nat → Value) → Value → World → (Nat → Prop) → Prop := fun rix => match rix with
  | 0 => fun _ v _ _ => v = lvV Aa ca la
  | 1 => fun _ v _ _ => v = .bool true
  | 2 => fun _ v _ _ => v = .bool true
  | 3 => fun _ v _ _ => v = lvV Ab cb lb
  | 4 => fun _ v _ _ => v = .bool true
  | 5 => fun _ v _ _ => v = .bool true
  | 6 => fun _ v _ _ => v = .bool true
  | 7 => fun _ v _ _ => v = lvV Aa ca la
  | 8 => fun τ v w O => NfV (fun _ => False) (shortN (sumP la)) v w O
  | 9 => fun _ v _ _ => v = lvV Ab cb lb
  | 10 => fun τ v w O => NfV (fun _ => False) (shortN (sumP lb)) v w O
  | 11 => fun _ v _ _ => v = .bool r
  | 12 => fun _ v _ _ => v = .bool r
  | 13 => fun _ v _ _ => v = .bool r
  | _ => fun _ _ _ _ => True
def rqy_C : Nat → List Nat := fun rix => match rix with
  | _ => []
theorem rqy_nw2 : nwB rqn_ops.toArray 2 = true := by kernel_rfl
theorem rqy_nw3 : nwB rqn_ops.toArray 3 = true := by kernel_rfl
set_option maxRecDepth 100000 in
set_option maxHeartbeats 8000000 in
theorem rqy_obs (w0 : World) (b : Nat) (Aa Ab : Option Addr) (ca cb : Nat) (la lb : Lv) (r : Bool) (hx2 : w0.heap[b]? = some (.cells #[.int .i64 la.kind, .int .i64 la.num, .slice Aa la.kids.length ca] 25 (0, 0))) (hx3 : w0.heap[b + 1]? = some (.cells #[.int .i64 lb.kind, .int .i64 lb.num, .slice Ab lb.kids.length cb] 25 (0, 0))) (hina : LvIn w0 w0.heap.size Aa ca la) (hinb : LvIn w0 w0.heap.size Ab cb lb) (hsa : soundB la = true) (hsb : soundB lb = true) (hr : decide (shortN (sumP la) = shortN (sumP lb)) = r) (Q : Exit → Act → World → Prop) (a0 : Act) (hi2 : a0.tmps.getD 2 undef = .pointer (some ⟨b, 0, none⟩)) (hi3 : a0.tmps.getD 3 undef = .pointer (some ⟨b + 1, 0, none⟩)) :
    ObsE Try.prog rqn_ops.toArray Q (est2 0 0 (fun _ => False) (fun _ => False)) rqy_C (rqy_F w0 b Aa Ab ca cb la lb r) a0 w0 rqn_ops.toArray.toList 0 := by
  have nw2 := rqy_nw2
  have nw3 := rqy_nw3
  refine ⟨?_, ?_, ?_, ?_, ?_, ?_, ?_, ?_, ?_, ?_, ?_, ?_, ?_, ?_, trivial⟩
  · refine ⟨⟨fun τ => stableE_det _, leans_not⟩, ?_⟩
    intro a w O hk
    have e2 : a.eval (.tmp 2) = .pointer (some ⟨b, 0, none⟩) := (hk.init 2 (initialB_of_nw nw2)).trans hi2
    have x2 := hk.world.still hx2 (fun ⟨_, h⟩ => h.elim And.right And.right)
    have x3 := hk.world.still hx3 (fun ⟨_, h⟩ => h.elim And.right And.right)
    have hl := hk.world.size
    have ia := (LvIn.stay hina (hk.world.below (fun k ⟨_, h⟩ => h.elim (fun h => h.2.elim) fun h => h.2.elim) (Nat.le_refl _))).all
    have ib := (LvIn.stay hinb (hk.world.below (fun k ⟨_, h⟩ => h.elim (fun h => h.2.elim) fun h => h.2.elim) (Nat.le_refl _))).all
    exact obE_loadRow rfl e2 x2 Try.underlying25 rfl (by kernel_rfl) (wanted_none rfl) rfl
  · refine ⟨⟨fun τ => stableE_det _, leans_not⟩, ?_⟩
    intro a w O hk
    have e5 : a.eval (.tmp 5) = lvV Aa ca la := hk.fact 0 _ 5 rfl rfl rfl rfl
    have x2 := hk.world.still hx2 (fun ⟨_, h⟩ => h.elim And.right And.right)
    have x3 := hk.world.still hx3 (fun ⟨_, h⟩ => h.elim And.right And.right)
    have hl := hk.world.size
    have ia := (LvIn.stay hina (hk.world.below (fun k ⟨_, h⟩ => h.elim (fun h => h.2.elim) fun h => h.2.elim) (Nat.le_refl _))).all
    have ib := (LvIn.stay hinb (hk.world.below (fun k ⟨_, h⟩ => h.elim (fun h => h.2.elim) fun h => h.2.elim) (Nat.le_refl _))).all
    exact obE_callV #[lvV Aa ca la] rfl rfl rfl rfl (by simp only [List.map_cons, List.map_nil]; rw [e5]) (wanted_none rfl) ((refSound_calls Aa ca la w ia).mono fun e w' h => ⟨by rw [h.1, hsa], h.2⟩)
  · refine ⟨⟨fun τ => stableE_det _, leans_not⟩, ?_⟩
    intro a w O hk
    have e6 : a.eval (.tmp 6) = .bool true := hk.fact 1 _ 6 rfl rfl rfl rfl
    exact toE (ob_move rfl e6 (wanted_none rfl) rfl)
  · refine ⟨⟨fun τ => stableE_det _, leans_not⟩, ?_⟩
    intro a w O hk
    have e3 : a.eval (.tmp 3) = .pointer (some ⟨b + 1, 0, none⟩) := (hk.init 3 (initialB_of_nw nw3)).trans hi3
    have e7 : a.eval (.tmp 7) = .bool true := hk.fact 2 _ 7 rfl rfl rfl rfl
    have x2 := hk.world.still hx2 (fun ⟨_, h⟩ => h.elim And.right And.right)
    have x3 := hk.world.still hx3 (fun ⟨_, h⟩ => h.elim And.right And.right)
    have hl := hk.world.size
    have ia := (LvIn.stay hina (hk.world.below (fun k ⟨_, h⟩ => h.elim (fun h => h.2.elim) fun h => h.2.elim) (Nat.le_refl _))).all
    have ib := (LvIn.stay hinb (hk.world.below (fun k ⟨_, h⟩ => h.elim (fun h => h.2.elim) fun h => h.2.elim) (Nat.le_refl _))).all
    exact obE_loadRow rfl e3 x3 Try.underlying25 rfl (by kernel_rfl) (wanted_of rfl rfl rfl e7) rfl
  · refine ⟨⟨fun τ => stableE_det _, leans_not⟩, ?_⟩
    intro a w O hk
    have e8 : a.eval (.tmp 8) = lvV Ab cb lb := hk.fact 3 _ 8 rfl rfl rfl rfl
    have e7 : a.eval (.tmp 7) = .bool true := hk.fact 2 _ 7 rfl rfl rfl rfl
    have x2 := hk.world.still hx2 (fun ⟨_, h⟩ => h.elim And.right And.right)
    have x3 := hk.world.still hx3 (fun ⟨_, h⟩ => h.elim And.right And.right)
    have hl := hk.world.size
    have ia := (LvIn.stay hina (hk.world.below (fun k ⟨_, h⟩ => h.elim (fun h => h.2.elim) fun h => h.2.elim) (Nat.le_refl _))).all
    have ib := (LvIn.stay hinb (hk.world.below (fun k ⟨_, h⟩ => h.elim (fun h => h.2.elim) fun h => h.2.elim) (Nat.le_refl _))).all
    exact obE_callV #[lvV Ab cb lb] rfl rfl rfl rfl (by simp only [List.map_cons, List.map_nil]; rw [e8]) (wanted_of rfl rfl rfl e7) ((refSound_calls Ab cb lb w ib).mono fun e w' h => ⟨by rw [h.1, hsb], h.2⟩)
  · refine ⟨⟨fun τ => stableE_det _, leans_not⟩, ?_⟩
    intro a w O hk
    have e7 : a.eval (.tmp 7) = .bool true := hk.fact 2 _ 7 rfl rfl rfl rfl
    have e9 : a.eval (.tmp 9) = .bool true := hk.fact 4 _ 9 rfl rfl rfl rfl
    exact toE (ob_pick rfl e7 e9 (wanted_none rfl) rfl)
  · refine ⟨⟨fun τ => stableE_det _, leans_not⟩, ?_⟩
    intro a w O hk
    have e10 : a.eval (.tmp 10) = .bool true := hk.fact 5 _ 10 rfl rfl rfl rfl
    exact toE (ob_move rfl e10 (wanted_none rfl) rfl)
  · refine ⟨⟨fun τ => stableE_det _, leans_not⟩, ?_⟩
    intro a w O hk
    have e2 : a.eval (.tmp 2) = .pointer (some ⟨b, 0, none⟩) := (hk.init 2 (initialB_of_nw nw2)).trans hi2
    have e11 : a.eval (.tmp 11) = .bool true := hk.fact 6 _ 11 rfl rfl rfl rfl
    have x2 := hk.world.still hx2 (fun ⟨_, h⟩ => h.elim And.right And.right)
    have x3 := hk.world.still hx3 (fun ⟨_, h⟩ => h.elim And.right And.right)
    have hl := hk.world.size
    have ia := (LvIn.stay hina (hk.world.below (fun k ⟨_, h⟩ => h.elim (fun h => h.2.elim) fun h => h.2.elim) (Nat.le_refl _))).all
    have ib := (LvIn.stay hinb (hk.world.below (fun k ⟨_, h⟩ => h.elim (fun h => h.2.elim) fun h => h.2.elim) (Nat.le_refl _))).all
    exact obE_loadRow rfl e2 x2 Try.underlying25 rfl (by kernel_rfl) (wanted_of rfl rfl rfl e11) rfl
  · refine ⟨⟨fun τ => stableE_nf (fun k hk' => hk'.elim), leans_not⟩, ?_⟩
    intro a w O hk
    have e12 : a.eval (.tmp 12) = lvV Aa ca la := hk.fact 7 _ 12 rfl rfl rfl rfl
    have e11 : a.eval (.tmp 11) = .bool true := hk.fact 6 _ 11 rfl rfl rfl rfl
    have x2 := hk.world.still hx2 (fun ⟨_, h⟩ => h.elim And.right And.right)
    have x3 := hk.world.still hx3 (fun ⟨_, h⟩ => h.elim And.right And.right)
    have hl := hk.world.size
    have ia := (LvIn.stay hina (hk.world.below (fun k ⟨_, h⟩ => h.elim (fun h => h.2.elim) fun h => h.2.elim) (Nat.le_refl _))).all
    have ib := (LvIn.stay hinb (hk.world.below (fun k ⟨_, h⟩ => h.elim (fun h => h.2.elim) fun h => h.2.elim) (Nat.le_refl _))).all
    refine obE_callNew #[lvV Aa ca la] rfl rfl rfl rfl (by simp only [List.map_cons, List.map_nil]; rw [e12]) (wanted_of rfl rfl rfl e11) ((refNorm_calls _ la (Nat.lt_succ_self _) (good_of_sound hsa) Aa ca w ia).mono ?_)
    intro e w' h
    exact NfV.of_got h
  · refine ⟨⟨fun τ => stableE_det _, leans_not⟩, ?_⟩
    intro a w O hk
    have e3 : a.eval (.tmp 3) = .pointer (some ⟨b + 1, 0, none⟩) := (hk.init 3 (initialB_of_nw nw3)).trans hi3
    have e11 : a.eval (.tmp 11) = .bool true := hk.fact 6 _ 11 rfl rfl rfl rfl
    have x2 := hk.world.still hx2 (fun ⟨_, h⟩ => h.elim And.right And.right)
    have x3 := hk.world.still hx3 (fun ⟨_, h⟩ => h.elim And.right And.right)
    have hl := hk.world.size
    have ia := (LvIn.stay hina (hk.world.below (fun k ⟨_, h⟩ => h.elim (fun h => h.2.elim) fun h => h.2.elim) (Nat.le_refl _))).all
    have ib := (LvIn.stay hinb (hk.world.below (fun k ⟨_, h⟩ => h.elim (fun h => h.2.elim) fun h => h.2.elim) (Nat.le_refl _))).all
    exact obE_loadRow rfl e3 x3 Try.underlying25 rfl (by kernel_rfl) (wanted_of rfl rfl rfl e11) rfl
  · refine ⟨⟨fun τ => stableE_nf (fun k hk' => hk'.elim), leans_not⟩, ?_⟩
    intro a w O hk
    have e14 : a.eval (.tmp 14) = lvV Ab cb lb := hk.fact 9 _ 14 rfl rfl rfl rfl
    have e11 : a.eval (.tmp 11) = .bool true := hk.fact 6 _ 11 rfl rfl rfl rfl
    have x2 := hk.world.still hx2 (fun ⟨_, h⟩ => h.elim And.right And.right)
    have x3 := hk.world.still hx3 (fun ⟨_, h⟩ => h.elim And.right And.right)
    have hl := hk.world.size
    have ia := (LvIn.stay hina (hk.world.below (fun k ⟨_, h⟩ => h.elim (fun h => h.2.elim) fun h => h.2.elim) (Nat.le_refl _))).all
    have ib := (LvIn.stay hinb (hk.world.below (fun k ⟨_, h⟩ => h.elim (fun h => h.2.elim) fun h => h.2.elim) (Nat.le_refl _))).all
    refine obE_callNew #[lvV Ab cb lb] rfl rfl rfl rfl (by simp only [List.map_cons, List.map_nil]; rw [e14]) (wanted_of rfl rfl rfl e11) ((refNorm_calls _ lb (Nat.lt_succ_self _) (good_of_sound hsb) Ab cb w ib).mono ?_)
    intro e w' h
    exact NfV.of_got h
  · refine ⟨⟨fun τ => stableE_det _, leans_not⟩, ?_⟩
    intro a w O hk
    have f13 := hk.fact 8 _ 13 rfl rfl rfl rfl
    have g13 := hk.owns 8 rfl rfl
    have f15 := hk.fact 10 _ 15 rfl rfl rfl rfl
    have g15 := hk.owns 10 rfl rfl
    have e11 : a.eval (.tmp 11) = .bool true := hk.fact 6 _ 11 rfl rfl rfl rfl
    have x2 := hk.world.still hx2 (fun ⟨_, h⟩ => h.elim And.right And.right)
    have x3 := hk.world.still hx3 (fun ⟨_, h⟩ => h.elim And.right And.right)
    have hl := hk.world.size
    have ia := (LvIn.stay hina (hk.world.below (fun k ⟨_, h⟩ => h.elim (fun h => h.2.elim) fun h => h.2.elim) (Nat.le_refl _))).all
    have ib := (LvIn.stay hinb (hk.world.below (fun k ⟨_, h⟩ => h.elim (fun h => h.2.elim) fun h => h.2.elim) (Nat.le_refl _))).all
    obtain ⟨A1, n1, k1, z13, h1, h2⟩ := f13
    obtain ⟨A2, n2, k2, z15, h3, h4⟩ := f15
    replace z13 : a.eval (.tmp 13) = _ := z13
    replace z15 : a.eval (.tmp 15) = _ := z15
    exact obE_callV #[.agg #[.int .i64 (shortN (sumP la)).1, .slice A1 n1 k1], .agg #[.int .i64 (shortN (sumP lb)).1, .slice A2 n2 k2]] rfl rfl rfl rfl (by simp only [List.map_cons, List.map_nil]; rw [z13, z15]) (wanted_of rfl rfl rfl e11) ((sameForm_calls A1 A2 n1 n2 k1 k2 (shortN (sumP la)).1 (shortN (sumP lb)).1 (shortN (sumP la)).2 (shortN (sumP lb)).2 w h2.1 h4.1).mono fun e w' h => ⟨by rw [h.1]; rw [← hr], h.2⟩)
  · refine ⟨⟨fun τ => stableE_det _, leans_not⟩, ?_⟩
    intro a w O hk
    have e11 : a.eval (.tmp 11) = .bool true := hk.fact 6 _ 11 rfl rfl rfl rfl
    have e16 : a.eval (.tmp 16) = .bool r := hk.fact 11 _ 16 rfl rfl rfl rfl
    exact toE (ob_pick rfl e11 e16 (wanted_none rfl) rfl)
  · refine ⟨⟨fun τ => stableE_det _, leans_not⟩, ?_⟩
    intro a w O hk
    have e17 : a.eval (.tmp 17) = .bool r := hk.fact 12 _ 17 rfl rfl rfl rfl
    exact toE (ob_assign rfl e17 (wanted_none rfl) rfl)
set_option maxRecDepth 100000 in
set_option maxHeartbeats 8000000 in
theorem rqy_region {Q : Exit → Act → World → Prop} {id : Nat} (w0 : World) (b : Nat) (Aa Ab : Option Addr) (ca cb : Nat) (la lb : Lv) (r : Bool) {s0 s1 s4 s5 s6 s7 s8 s9 s10 s11 s12 s13 s14 s15 s16 s17 : Value} (hx2 : w0.heap[b]? = some (.cells #[.int .i64 la.kind, .int .i64 la.num, .slice Aa la.kids.length ca] 25 (0, 0))) (hx3 : w0.heap[b + 1]? = some (.cells #[.int .i64 lb.kind, .int .i64 lb.num, .slice Ab lb.kids.length cb] 25 (0, 0))) (hina : LvIn w0 w0.heap.size Aa ca la) (hinb : LvIn w0 w0.heap.size Ab cb lb) (hsa : soundB la = true) (hsb : soundB lb = true) (hr : decide (shortN (sumP la) = shortN (sumP lb)) = r)
    (hend : ∀ (w' : World) (u13 : Value) (u15 : Value) (O8 : Nat → Prop) (O10 : Nat → Prop), Chg (fun k => False ∨ False) w0 w' → (NfV (fun _ => False) (shortN (sumP la)) u13 w' O8) → (∀ k, O8 k → k < w'.heap.size ∧ ¬ Fix w0 (est2 0 0 (fun _ => False) (fun _ => False)) k) → (NfV (fun _ => False) (shortN (sumP lb)) u15 w' O10) → (∀ k, O10 k → k < w'.heap.size ∧ ¬ Fix w0 (est2 0 0 (fun _ => False) (fun _ => False)) k) → Q .normal { tmps := (s0 :: s1 :: (.pointer (some ⟨b, 0, none⟩)) :: (.pointer (some ⟨b + 1, 0, none⟩)) :: (.bool r) :: (lvV Aa ca la) :: (.bool true) :: (.bool true) :: (lvV Ab cb lb) :: (.bool true) :: (.bool true) :: (.bool true) :: (lvV Aa ca la) :: u13 :: (lvV Ab cb lb) :: u15 :: (.bool r) :: (.bool r) :: [] : List Value).toArray, defers := [] } w') :
    (Code.region id rqn_ops.toArray true).wp Try.prog Q { tmps := (s0 :: s1 :: (.pointer (some ⟨b, 0, none⟩)) :: (.pointer (some ⟨b + 1, 0, none⟩)) :: s4 :: s5 :: s6 :: s7 :: s8 :: s9 :: s10 :: s11 :: s12 :: s13 :: s14 :: s15 :: s16 :: s17 :: [] : List Value).toArray, defers := [] } w0 := by
  refine wp_region_est (by kernel_rfl) (est2 0 0 (fun _ => False) (fun _ => False)) rqy_C (rqy_F w0 b Aa Ab ca cb la lb r) (est2_dis (fun _ h _ => h)) (est2_range (fun _ h => h.elim) (fun _ h => h.elim)) (by rfl) (by kernel_rfl) (rqy_obs w0.drew b Aa Ab ca cb la lb r hx2 hx3 (LvS.later hina (below_drew (Below.refl _ _))) (LvS.later hinb (below_drew (Below.refl _ _))) hsa hsb hr _ _ rfl rfl) ?_
  intro a w' O hd hs hb hf hf2 ha hsame
  have hl := slots_eq (ops := rqn_ops.toArray) [(4, .bool r), (5, lvV Aa ca la), (6, .bool true), (7, .bool true), (8, lvV Ab cb lb), (9, .bool true), (10, .bool true), (11, .bool true), (12, lvV Aa ca la), (13, a.tmps.getD 13 undef), (14, lvV Ab cb lb), (15, a.tmps.getD 15 undef), (16, .bool r), (17, .bool r)] (show a.tmps.size = 18 from hs) (fun i h => hsame i h) ⟨(hf 13 _ 4 rfl rfl (by decide)).1, (hf 0 _ 5 rfl rfl (by decide)).1, (hf 1 _ 6 rfl rfl (by decide)).1, (hf 2 _ 7 rfl rfl (by decide)).1, (hf 3 _ 8 rfl rfl (by decide)).1, (hf 4 _ 9 rfl rfl (by decide)).1, (hf 5 _ 10 rfl rfl (by decide)).1, (hf 6 _ 11 rfl rfl (by decide)).1, (hf 7 _ 12 rfl rfl (by decide)).1, rfl, (hf 9 _ 14 rfl rfl (by decide)).1, rfl, (hf 11 _ 16 rfl rfl (by decide)).1, (hf 12 _ 17 rfl rfl (by decide)).1, trivial⟩ (by kernel_rfl)
  obtain ⟨tmps, defers⟩ := a
  obtain rfl : defers = [] := hd
  have hl' : tmps = _ := hl
  rw [hl']
  have hb' := est2_chg hb
  refine Eq.mp ?_ (hend w' (tmps.getD 13 undef) (tmps.getD 15 undef) (O 8) (O 10) ⟨hb'.os, hb'.tape, hb'.output, hb'.size, hb'.block⟩ (hf 8 _ 13 rfl rfl (by decide)).1 (hf 8 _ 13 rfl rfl (by decide)).2 (hf 10 _ 15 rfl rfl (by decide)).1 (hf 10 _ 15 rfl rfl (by decide)).2)
  kernel_rfl

set_option maxHeartbeats 4000000 in
theorem refEqual_calls (A B : Option Addr) (c c' : Nat) (a b : Lv) (w : World) (ha : LvIn w w.heap.size A c a) (hb : LvIn w w.heap.size B c' b) :
    Calls Try.prog 108 #[lvV A c a, lvV B c' b] w fun e w' => e = .returned (.bool (eqP a b)) ∧ Below w.heap.size w w' := by
  have HW := Aside0.mk (show Below w.heap.size w (bx2 w A B c c' a b) from below_alloc (below_alloc (Below.refl _ _) _) _)
  have HX := Aside0.mk (show (bx2 w A B c c' a b).heap[w.heap.size]? = some (.cells #[.int .i64 a.kind, .int .i64 a.num, .slice A a.kids.length c] 25 (0, 0)) from box0 w _ _)
  have HY := Aside0.mk (show (bx2 w A B c c' a b).heap[w.heap.size + 1]? = some (.cells #[.int .i64 b.kind, .int .i64 b.num, .slice B b.kids.length c'] 25 (0, 0)) from box1 w _ _)
  have HA := Aside0.mk (LvIn.stay ha HW.out).all
  have HB := Aside0.mk (LvIn.stay hb HW.out).all
  clear ha hb
  unfold lvV
  go_enter Try.func108, Try.ntmps108
  go_upto_region 1 with (fail)
  cases hsa : soundB a with
  | false =>
    have HE := Aside0.mk (eqP_1 (b := b) hsa)
    refine rqn_region (bx2 w A B c c' a b) w.heap.size A B c c' a b false HX.out HY.out HA.out HB.out hsa ?_
    intro w1 hch
    have HB1 := Aside0.mk (below_then HW.out HW.out.size (hch.below (fun _ h => h.elim False.elim False.elim) (Nat.le_refl _)))
    clear hch
    go_wp2
    go_ret
    rw [HE.out]
    exact ⟨rfl, HB1.out⟩
  | true =>
    cases hsb : soundB b with
    | false =>
      have HE := Aside0.mk (eqP_2 (a := a) hsb)
      refine rqm_region (bx2 w A B c c' a b) w.heap.size A B c c' a b false HX.out HY.out HA.out HB.out hsa hsb ?_
      intro w1 hch
      have HB1 := Aside0.mk (below_then HW.out HW.out.size (hch.below (fun _ h => h.elim False.elim False.elim) (Nat.le_refl _)))
      clear hch
      go_wp2
      go_ret
      rw [HE.out]
      exact ⟨rfl, HB1.out⟩
    | true =>
      obtain ⟨r, hr⟩ : ∃ r, decide (shortN (sumP a) = shortN (sumP b)) = r := ⟨_, rfl⟩
      have HE := Aside0.mk ((eqP_3 hsa hsb).trans hr)
      refine rqy_region (bx2 w A B c c' a b) w.heap.size A B c c' a b r HX.out HY.out HA.out HB.out hsa hsb hr ?_
      intro w1 u13 u15 O8 O10 hch _ _ _ _
      have HB1 := Aside0.mk (below_then HW.out HW.out.size (hch.below (fun _ h => h.elim False.elim False.elim) (Nat.le_refl _)))
      clear hch
      go_wp2
      go_ret
      rw [HE.out]
      exact ⟨rfl, HB1.out⟩

end Go.Proofs.Ytdboloabpjmgaaa

/-! SeW -/
namespace Go.Proofs.Ytdboloabpjmgaaa
open Go.RowKit Go.Proofs.YtdboloabpjmgaaaW.PrintWords Go.RegionInvYtdboloabpjmgaaa Go.RegionEYtdboloabpjmgaaa

theorem equal_at (A B : Option Addr) (c c' m m' : Nat) (k n k' n' : Int) (a b : Lv) (w : World) (hk : a.kind = k) (hn : a.num = n) (hm : a.kids.length = m) (hk' : b.kind = k') (hn' : b.num = n') (hm' : b.kids.length = m') (ha : LvIn w w.heap.size A c a) (hb : LvIn w w.heap.size B c' b) :
    Calls Try.prog 106 #[.agg #[.int .i64 k, .int .i64 n, .slice A m c], .agg #[.int .i64 k', .int .i64 n', .slice B m' c']] w fun e w' => e = .returned (.bool (eqP a b)) ∧ Below w.heap.size w w' := by
  subst hk hn hm hk' hn' hm'
  exact equal_calls A B c c' a b w ha hb
theorem lvsEq_len : ∀ {xs ys : List Lv}, xs.length ≠ ys.length → lvsEq xs ys = false
  | [], [], h => absurd rfl h
  | [], _ :: _, _ => rfl
  | _ :: _, [], _ => rfl
  | x :: r, y :: s, h => by
    show (eqP x y && lvsEq r s) = false
    rw [lvsEq_len (xs := r) (ys := s) (by simpa using h), Bool.and_false]
theorem lvsEq_cons (x y : Lv) (r s : List Lv) : lvsEq (x :: r) (y :: s) = (eqP x y && lvsEq r s) := rfl
theorem drop_lv {ks : List Lv} {i : Nat} {x : Lv} (h : ks[i]? = some x) : ks.drop i = x :: ks.drop (i + 1) := by
  obtain ⟨hl, rfl⟩ := List.getElem?_eq_some_iff.1 h
  exact List.drop_eq_getElem_cons hl
set_option maxRecDepth 100000 in
set_option maxHeartbeats 4000000 in
theorem eqf_calls (A B : Option Addr) (n m cA cB : Nat) (xs ys : List Lv) (w : World) (hx : LvIn w w.heap.size A cA (.mk 0 0 xs)) (hy : LvIn w w.heap.size B cB (.mk 0 0 ys)) (hn : xs.length = n) (hm : ys.length = m) :
    Calls Try.prog 107 #[.slice A n cA, .slice B m cB, .func (.func 106) #[] #[]] w fun e w' => e = .returned (.bool (lvsEq xs ys)) ∧ Below w.heap.size w w' := by
  have HX := Aside0.mk hx
  have HY := Aside0.mk hy
  have hlx := hx.len
  have hly := hy.len
  simp only [Lv.kids] at hlx hly
  rw [hn] at hlx
  rw [hm] at hly
  have HN := Aside0.mk hn
  have HM := Aside0.mk hm
  clear hx hy hn hm
  go_enter Try.func107, Try.ntmps107
  by_cases hnm : n = m
  · subst hnm
    have hb : ((n : Int) != (n : Int)) = false := by simp
    go_wp2
    go_loopw [17] (fun i wr => ∃ k : Nat, i = .int .i64 k ∧ k ≤ n ∧ Aside0 (lvsEq (xs.drop k) (ys.drop k) = lvsEq xs ys) ∧ Aside0 (Below w.heap.size w wr)) (fun i _ => n - (intOf i).toNat)
    case atStart => exact ⟨0, rfl, Nat.zero_le _, ⟨rfl⟩, ⟨Below.refl _ _⟩⟩
    case round =>
      obtain ⟨k, rfl, hk, HK, HB⟩ := hrel
      by_cases hlt : k < n
      · obtain ⟨x, hx⟩ : ∃ x, xs[k]? = some x := ⟨_, List.getElem?_eq_getElem (by rw [HN.out]; exact hlt)⟩
        obtain ⟨y, hy⟩ : ∃ y, ys[k]? = some y := ⟨_, List.getElem?_eq_getElem (by rw [HM.out]; exact hlt)⟩
        obtain ⟨A', c', hcs, hin⟩ := (LvIn.stay HX.out HB.out).kid k x hx
        obtain ⟨B', d', hct, hin2⟩ := (LvIn.stay HY.out HB.out).kid k y hy
        obtain ⟨ad, rfl, d1, d2, d3⟩ := hcs.facts
        obtain ⟨bd, rfl, f1, f2, f3⟩ := hct.facts
        have HDX := Aside0.mk (drop_lv hx)
        have HDY := Aside0.mk (drop_lv hy)
        have HXI := Aside0.mk hin.all
        have HYI := Aside0.mk hin2.all
        obtain ⟨xk, hxk⟩ : ∃ z, x.kind = z := ⟨_, rfl⟩
        obtain ⟨xn, hxn⟩ : ∃ z, x.num = z := ⟨_, rfl⟩
        obtain ⟨xm, hxm⟩ : ∃ z, x.kids.length = z := ⟨_, rfl⟩
        obtain ⟨yk, hyk⟩ : ∃ z, y.kind = z := ⟨_, rfl⟩
        obtain ⟨yn, hyn⟩ : ∃ z, y.num = z := ⟨_, rfl⟩
        obtain ⟨ym, hym⟩ : ∃ z, y.kids.length = z := ⟨_, rfl⟩
        rw [hxk] at d1; rw [hxn] at d2; rw [hxm] at d3
        rw [hyk] at f1; rw [hyn] at f2; rw [hym] at f3
        have HQ := Aside0.mk (And.intro hxk (And.intro hxn (And.intro hxm (And.intro hyk (And.intro hyn hym)))))
        have hce : ∀ (o : Obj) (p : Addr) (v : Value), wr.cell? p = some v → (wr.alloc o).cell? p = some v := fun o p v hv => ((below_alloc (Below.refl wr.heap.size wr) o).cell (World.block_lt_of_cell? wr _ hv)).trans hv
        have g1 := hce (.cells #[.int .i64 xk, .int .i64 xn, .slice A' xm c'] 25 (0, 0)) _ _ f1
        have g2 := hce (.cells #[.int .i64 xk, .int .i64 xn, .slice A' xm c'] 25 (0, 0)) _ _ f2
        have g3 := hce (.cells #[.int .i64 xk, .int .i64 xn, .slice A' xm c'] 25 (0, 0)) _ _ f3
        clear hcs hct hin hin2 hx hy hxk hxn hxm hyk hyn hym hce
        go_upto_region 6 with (fail)
        obtain ⟨W1, hW1⟩ : ∃ W1, W1 = wr.alloc (.cells #[.int .i64 xk, .int .i64 xn, .slice A' xm c'] 25 (0, 0)) := ⟨_, rfl⟩
        rw [← hW1] at g1 g2 g3
        have hb1 : Below wr.heap.size wr W1 := by rw [hW1]; exact below_alloc (Below.refl _ _) _
        have hx1 : W1.heap[wr.heap.size]? = some (.cells #[.int .i64 xk, .int .i64 xn, .slice A' xm c'] 25 (0, 0)) := by rw [hW1]; exact blk_new _ _
        rw [← hW1]
        clear hW1 d1 d2 d3 f1 f2 f3
        go_upto_region 7 with (fail)
        obtain ⟨W2, hW2⟩ : ∃ W2, W2 = W1.alloc (.cells #[.int .i64 yk, .int .i64 yn, .slice B' ym d'] 25 (0, 0)) := ⟨_, rfl⟩
        have hb2 : Below W1.heap.size W1 W2 := by rw [hW2]; exact below_alloc (Below.refl _ _) _
        have hx2 : W2.heap[wr.heap.size]? = some (.cells #[.int .i64 xk, .int .i64 xn, .slice A' xm c'] 25 (0, 0)) := (hb2.block _ (blk_lt hx1)).trans hx1
        have hy2 : W2.heap[W1.heap.size]? = some (.cells #[.int .i64 yk, .int .i64 yn, .slice B' ym d'] 25 (0, 0)) := by rw [hW2]; exact blk_new _ _
        have HB2 := Aside0.mk (below_then HB.out HB.out.size (below_then hb1 hb1.size hb2))
        have HXJ := Aside0.mk ((LvS.later HXI.out (below_then hb1 hb1.size hb2)).all)
        have HYJ := Aside0.mk ((LvS.later HYI.out (below_then hb1 hb1.size hb2)).all)
        obtain ⟨r0, r1, r2, -, -, -⟩ := row3 hx2
        obtain ⟨s0, s1, s2, -, -, -⟩ := row3 hy2
        rw [← hW2]
        clear hW2 hb1 hb2 hx1 hx2 hy2 g1 g2 g3
        have hcall := HQ.out
        have HCE := Aside0.mk (equal_at A' B' c' d' xm ym xk xn yk yn x y W2 hcall.1 hcall.2.1 hcall.2.2.1 hcall.2.2.2.1 hcall.2.2.2.2.1 hcall.2.2.2.2.2 HXJ.out HYJ.out)
        clear hcall
        cases he : eqP x y with
        | true =>
          have HV := Aside0.mk he
          have HK2 := Aside0.mk (show lvsEq (xs.drop (k + 1)) (ys.drop (k + 1)) = lvsEq xs ys by rw [← HK.out, HDX.out, HDY.out, lvsEq_cons, he, Bool.true_and])
          clear he
          go_wp2_with (go_at_call 106; go_must (refine HCE.out.mono ?_; rintro e w3 ⟨rfl, hb⟩; rw [HV.out]; have HB3 := Aside0.mk (below_then HB2.out HB2.out.size hb); clear hb))
          go_roundw
          case rel => exact ⟨k + 1, by go_num, by omega, HK2, HB3⟩
          case measure => (simp [intOf]; try omega)
        | false =>
          have HV := Aside0.mk he
          have HK2 := Aside0.mk (show lvsEq xs ys = false by rw [← HK.out, HDX.out, HDY.out, lvsEq_cons, he, Bool.false_and])
          clear he
          go_wp2_with (go_at_call 106; go_must (refine HCE.out.mono ?_; rintro e w3 ⟨rfl, hb⟩; rw [HV.out]; have HB3 := Aside0.mk (below_then HB2.out HB2.out.size hb); clear hb))
          go_ret
          rw [HK2.out]
          exact ⟨rfl, HB3.out⟩
      · obtain rfl : k = n := by omega
        have hlt' : decide ((k : Int) < k) = false := by simp
        have HZ := Aside0.mk (show lvsEq xs ys = true by rw [← HK.out, List.drop_of_length_le (by rw [HN.out]; exact Nat.le_refl _), List.drop_of_length_le (by rw [HM.out]; exact Nat.le_refl _)]; rfl)
        go_wp2
        go_ret
        rw [HZ.out]
        exact ⟨rfl, HB.out⟩
  · have hb : ((n : Int) != (m : Int)) = true := by simp; omega
    have HF := Aside0.mk (lvsEq_len (xs := xs) (ys := ys) (by rw [HN.out, HM.out]; exact hnm))
    clear hnm
    go_wp2
    go_ret
    rw [HF.out]
    exact ⟨rfl, Below.refl _ _⟩
theorem kind_leaf {t : Tm} (h : t.kind = 1 ∨ t.kind = 2 ∨ t.kind = 7) : nK t = 0 ∧ leafR t = false := by
  have ha : arZ t.kind = 0 := if_pos h
  refine ⟨?_, ?_⟩
  · unfold nK; rw [ha]; split <;> rfl
  · unfold leafR; rw [ha]; exact decide_eq_false (by omega)
theorem sm_kind {t u : Tm} (h : t.kind ≠ u.kind) : sameT t u = false := by rw [same_eq]; unfold hdB; rw [decide_eq_false h]; rfl
theorem leafR_leaf {t : Tm} (h : leafT t = true) (h1 : t.kind ≠ 1) (h2 : t.kind ≠ 2) (h7 : t.kind ≠ 7) : leafR t = true := by
  have h0 := leaf_nK h
  unfold leafR
  unfold nK at h0
  have ha : arZ t.kind ≠ 0 := by
    unfold arZ
    rw [if_neg (by omega)]
    split
    · omega
    · split <;> omega
  refine decide_eq_true ?_
  split at h0
  · exact .inr (by assumption)
  · exact .inl (by omega)
theorem sm_leaf {t u : Tm} (hk : t.kind = u.kind) (h : leafT t ≠ leafT u) : sameT t u = false := by
  have key : ∀ {a b : Tm}, a.kind = b.kind → leafT a = false → leafT b = true → leafR a = false ∧ leafR b = true := fun hk ha hb => by
    obtain ⟨k1, k2, k7⟩ := kind_node ha
    exact ⟨leafR_node ha, leafR_leaf hb (by rw [← hk]; exact k1) (by rw [← hk]; exact k2) (by rw [← hk]; exact k7)⟩
  rw [same_eq]
  unfold hdB
  cases ht : leafT t with
  | true =>
    cases hu : leafT u with
    | true => rw [ht, hu] at h; exact absurd rfl h
    | false => obtain ⟨e1, e2⟩ := key hk.symm hu ht; rw [e1, e2]; simp
  | false =>
    cases hu : leafT u with
    | true => obtain ⟨e1, e2⟩ := key hk ht hu; rw [e1, e2]; simp
    | false => rw [ht, hu] at h; exact absurd rfl h
theorem sm_var {t u : Tm} (hk : t.kind = u.kind) (k : t.kind = 1) : sameT t u = (t.num == u.num) := by
  obtain ⟨h1, h2⟩ := kind_leaf (t := t) (.inl k)
  obtain ⟨-, h3⟩ := kind_leaf (t := u) (.inl (by rw [← hk]; exact k))
  rw [same_leaf (leafT_of h1)]
  unfold hdB
  rw [decide_eq_true hk, h2, h3, if_pos k]
  rfl
theorem sm_sort {t u : Tm} (hk : t.kind = u.kind) (k : t.kind = 2) : sameT t u = eqP t.lv u.lv := by
  obtain ⟨h1, h2⟩ := kind_leaf (t := t) (.inr (.inl k))
  obtain ⟨-, h3⟩ := kind_leaf (t := u) (.inr (.inl (by rw [← hk]; exact k)))
  rw [same_leaf (leafT_of h1)]
  unfold hdB
  rw [decide_eq_true hk, h2, h3, if_neg (by omega), if_pos k]
  rfl
theorem sm_const {t u : Tm} (hk : t.kind = u.kind) (k : t.kind = 7) : sameT t u = ((t.name.toList == u.name.toList) && lvsEq t.ls u.ls) := by
  obtain ⟨h1, h2⟩ := kind_leaf (t := t) (.inr (.inr k))
  obtain ⟨-, h3⟩ := kind_leaf (t := u) (.inr (.inr (by rw [← hk]; exact k)))
  rw [same_leaf (leafT_of h1)]
  unfold hdB
  rw [decide_eq_true hk, h2, h3, if_neg (by omega), if_neg (by omega), if_pos k]
  simp
theorem sm_bare {t u : Tm} (hk : t.kind = u.kind) (h1 : t.kind ≠ 1) (h2 : t.kind ≠ 2) (h7 : t.kind ≠ 7) (ht : leafT t = true) (hu : leafT u = true) : sameT t u = true := by
  rw [same_leaf ht]
  unfold hdB
  rw [decide_eq_true hk, leafR_leaf ht h1 h2 h7, leafR_leaf hu (by rw [← hk]; exact h1) (by rw [← hk]; exact h2) (by rw [← hk]; exact h7)]
  rfl
def alls (t u : Tm) (xs : List (Fin (nK t))) : Bool := xs.all fun i => sameT (kidF t i) (u.kids.getD i.1 default)
theorem sm_node {t u : Tm} (hk : t.kind = u.kind) (ht : leafT t = false) (hu : leafT u = false) : sameT t u = alls t u (List.finRange (nK t)) := by
  rw [same_eq, hd_node ht hu hk, Bool.true_and]; rfl
theorem alls_cons (t u : Tm) (i : Fin (nK t)) (r : List (Fin (nK t))) : alls t u (i :: r) = (sameT (kidF t i) (u.kids.getD i.1 default) && alls t u r) := rfl
theorem nK_same {t u : Tm} (hk : t.kind = u.kind) (ht : leafT t = false) (hu : leafT u = false) : nK t = nK u := by
  have h1 := nK_ar (leaf_nK' ht)
  have h2 := nK_ar (leaf_nK' hu)
  rw [hk] at h1
  omega
theorem below_all {w W : World} {p : Pl} {t : Tm} (h : TmIn w w.heap.size p t) (hb : Below w.heap.size w W) : TmIn W W.heap.size p t := TmS.all (TmIn.stay h hb)
set_option maxRecDepth 100000 in
set_option maxHeartbeats 4000000 in
theorem tsame_calls (N : Nat) : ∀ (t : Tm), SizeOf.sizeOf t < N → ∀ (u : Tm) (p q : Pl) (w : World), TmIn w w.heap.size p t → TmIn w w.heap.size q u →
    Calls Try.prog 85 #[tmV p t, tmV q u] w fun e w' => e = .returned (.bool (sameT t u)) ∧ Below w.heap.size w w' := by
  induction N with
  | zero => intro t h; omega
  | succ N ih =>
    intro t hN u p q w hin hin2
    have IH := Aside0.mk ih
    have HNN := Aside0.mk hN
    have HIN := Aside0.mk hin
    have HIN2 := Aside0.mk hin2
    have hlt := hin.len
    have hlu := hin2.len
    have hlt9 : t.kids.length ≤ 9223372036854775807 := by omega
    have hlu9 : u.kids.length ≤ 9223372036854775807 := by omega
    have hfl := hin.ls.len
    have hfu := hin2.ls.len
    simp only [Lv.kids] at hfl hfu
    obtain ⟨W, hW⟩ : ∃ W, W = (w.alloc (tmO p t)).alloc (tmO q u) := ⟨_, rfl⟩
    have hb : Below w.heap.size w W := by rw [hW]; exact below_alloc (below_alloc (Below.refl _ _) _) _
    have HX := Aside0.mk (show W.heap[w.heap.size]? = some (tmO p t) by rw [hW]; exact box0 w _ _)
    have HY := Aside0.mk (show W.heap[w.heap.size + 1]? = some (tmO q u) by rw [hW]; exact box1 w _ _)
    have HB := Aside0.mk hb
    clear ih hN hin hin2 hb
    unfold tmV
    unfold tmO at hW
    go_enter Try.func85, Try.ntmps85
    go_upto_region 1 with (fail)
    rw [← hW]
    clear hW
    by_cases hkk : t.kind = u.kind
    · obtain ⟨la, hla⟩ : ∃ x, leafT t = x := ⟨_, rfl⟩
      obtain ⟨lb, hlb⟩ : ∃ x, leafT u = x := ⟨_, rfl⟩
      by_cases hll : la = lb
      · refine spy_region W w.heap.size (w.heap.size + 1) p q t u la lb false HX.out HY.out hkk hla hlb (by simp [hll]) ?_
        intro w1 hch
        have hb1 : Below W.heap.size W w1 := hch.below (fun _ h => h.elim False.elim False.elim) (Nat.le_refl _)
        have HB1 := Aside0.mk (below_then HB.out HB.out.size hb1)
        have HX1 := Aside0.mk ((hb1.block _ (blk_lt HX.out)).trans HX.out)
        have HY1 := Aside0.mk ((hb1.block _ (blk_lt HY.out)).trans HY.out)
        have HKK := Aside0.mk hkk
        have HLA := Aside0.mk hla
        have HLB := Aside0.mk hlb
        clear hch hb1 hkk hla hlb HX HY
        subst hll
        obtain ⟨p0, p1, p2, p3, p4, p5, p6, p7⟩ := row8 HX1.out
        obtain ⟨q0, q1, q2, q3, q4, q5, q6, q7⟩ := row8 HY1.out
        by_cases k1 : t.kind = 1
        · have b1 : (t.kind == 1) = true := by simp [k1]
          have HE := Aside0.mk (sm_var HKK.out k1)
          clear k1
          go_wp2
          go_ret
          rw [HE.out]
          exact ⟨rfl, HB1.out⟩
        · have b1 : (t.kind == 1) = false := by simp [k1]
          by_cases k2 : t.kind = 2
          · have b2 : (t.kind == 2) = true := by simp [k2]
            have HE := Aside0.mk (sm_sort HKK.out k2)
            clear k1 k2
            go_wp2_with (go_at_call 106; go_must (refine (equal_at p.A q.A p.c q.c _ _ _ _ _ _ t.lv u.lv w1 rfl rfl rfl rfl rfl rfl (below_all HIN.out HB1.out).lv.all (below_all HIN2.out HB1.out).lv.all).mono ?_; rintro e w2 ⟨rfl, hb⟩; have HB2 := Aside0.mk (below_then HB1.out HB1.out.size hb); clear hb))
            go_ret
            rw [HE.out]
            exact ⟨rfl, HB2.out⟩
          · have b2 : (t.kind == 2) = false := by simp [k2]
            by_cases k7 : t.kind = 7
            · have b7 : (t.kind == 7) = true := by simp [k7]
              have HE := Aside0.mk (sm_const HKK.out k7)
              clear k1 k2 k7
              cases hn : (t.name.toList == u.name.toList) with
              | true =>
                have HE2 := Aside0.mk (show sameT t u = lvsEq t.ls u.ls by rw [HE.out, hn, Bool.true_and])
                go_wp2_with (go_at_call 107; go_must (refine (eqf_calls p.B q.B _ _ p.d q.d t.ls u.ls w1 (below_all HIN.out HB1.out).ls.all (below_all HIN2.out HB1.out).ls.all rfl rfl).mono ?_; rintro e w2 ⟨rfl, hb⟩; have HB2 := Aside0.mk (below_then HB1.out HB1.out.size hb); clear hb))
                go_ret
                rw [HE2.out]
                exact ⟨rfl, HB2.out⟩
              | false =>
                have HE2 := Aside0.mk (show sameT t u = false by rw [HE.out, hn, Bool.false_and])
                go_wp2
                go_ret
                rw [HE2.out]
                exact ⟨rfl, HB1.out⟩
            · have b7 : (t.kind == 7) = false := by simp [k7]
              have HKN := Aside0.mk (And.intro k1 (And.intro k2 k7))
              clear k1 k2 k7
              cases la with
              | true =>
                have HE := Aside0.mk (sm_bare HKK.out HKN.out.1 HKN.out.2.1 HKN.out.2.2 HLA.out HLB.out)
                go_wp2_with (first
                  | (refine wpList_load_row rfl 28 _ rfl (w.heap.size) rfl 28 _ (0, 0) _ HX1.out Try.underlying28 rfl (by kernel_rfl) ?_)
                  | (go_at_call 75; go_must (refine (leaf_calls t p w1).mono ?_; rintro e w2 ⟨rfl, hb⟩; rw [HLA.out]; have HB2 := Aside0.mk (below_then HB1.out HB1.out.size hb); clear hb)))
                go_ret
                rw [HE.out]
                exact ⟨rfl, HB2.out⟩
              | false =>
                have HE := Aside0.mk (sm_node HKK.out HLA.out HLB.out)
                go_upto_region 12 with (first
                  | (refine wpList_load_row rfl 28 _ rfl (w.heap.size) rfl 28 _ (0, 0) _ HX1.out Try.underlying28 rfl (by kernel_rfl) ?_)
                  | (go_at_call 75; go_must (refine (leaf_calls t p w1).mono ?_; rintro e w2 ⟨rfl, hb⟩; rw [HLA.out]; have HB2 := Aside0.mk (below_then HB1.out HB1.out.size hb); have HX2 := Aside0.mk ((hb.block _ (blk_lt HX1.out)).trans HX1.out); have HY2 := Aside0.mk ((hb.block _ (blk_lt HY1.out)).trans HY1.out); have c0 := (row8 HX2.out).1; clear hb)))
                obtain ⟨ar, har⟩ : ∃ x, nK t = x := ⟨_, rfl⟩
                have HAR := Aside0.mk har
                have hnk := nK_ar (leaf_nK' HLA.out)
                have HAC := Aside0.mk (show ∀ w, Calls Try.prog 104 #[.int .i64 t.kind] w fun e w' => e = .returned (.int .i64 (ar : Int)) ∧ w' = w from fun w => by rw [← har, hnk]; exact tar_calls _ _)
                have har3 : ar ≤ 3 := by rw [← har]; exact nK_le3 t
                have hart : ar ≤ t.kids.length := by rw [← har]; exact nK_le t
                have haru : ar ≤ u.kids.length := by rw [← har, nK_same HKK.out HLA.out HLB.out]; exact nK_le u
                clear har hnk p0 p1 p2 p3 p4 p5 p6 p7 q0 q1 q2 q3 q4 q5 q6 q7
                go_wp2_with (go_at_call 104; go_must (refine (HAC.out _).mono ?_; rintro e w3 ⟨rfl, h3⟩; have h3 := h3.symm; subst h3))
                clear c0
                go_loopw [53] (fun i wr => ∃ k : Nat, i = .int .i64 k ∧ k ≤ ar ∧ Aside0 (alls t u ((List.finRange (nK t)).drop k) = sameT t u) ∧ Aside0 (Below w2.heap.size w2 wr)) (fun i _ => ar - (intOf i).toNat)
                case atStart => exact ⟨0, rfl, Nat.zero_le _, ⟨by rw [List.drop_zero]; exact HE.out.symm⟩, ⟨Below.refl _ _⟩⟩
                case round =>
                  obtain ⟨k, rfl, hk, HK, HBR⟩ := hrel
                  by_cases hlk : k < ar
                  · have hkn : k < nK t := by rw [HAR.out]; exact hlk
                    have hkm : k < nK u := by rw [← nK_same HKK.out HLA.out HLB.out]; exact hkn
                    have HDF := Aside0.mk (drop_fin hkn)
                    have HBA := Aside0.mk (below_then HB2.out HB2.out.size HBR.out)
                    obtain ⟨qq, hqq⟩ := (TmIn.stay HIN.out HBA.out).kid
                    obtain ⟨qr, hqr⟩ := (TmIn.stay HIN2.out HBA.out).kid
                    obtain ⟨⟨ga, oa, hpK, hga, hca⟩, hxin⟩ := hqq k _ (kidF_get t ⟨k, hkn⟩)
                    obtain ⟨⟨gd, od, hqK, hgd, hcb⟩, hyin⟩ := hqr k _ (kidF_get u ⟨k, hkm⟩)
                    have HGD := Aside0.mk (show u.kids.getD k default = kidF u ⟨k, hkm⟩ by rw [List.getD_eq_getElem?_getD, kidF_get u ⟨k, hkm⟩]; rfl)
                    have HAL := Aside0.mk (alls_cons t u ⟨k, hkn⟩ ((List.finRange (nK t)).drop (k + 1)))
                    have HXL := Aside0.mk (kidF_lt t ⟨k, hkn⟩)
                    obtain ⟨x, hxe⟩ : ∃ x, kidF t ⟨k, hkn⟩ = x := ⟨_, rfl⟩
                    obtain ⟨y, hye⟩ : ∃ y, kidF u ⟨k, hkm⟩ = y := ⟨_, rfl⟩
                    rw [hxe] at hca hxin HAL HXL
                    rw [hye] at hcb hyin HGD
                    rw [HGD.out] at HAL
                    have HXI := Aside0.mk (TmS.all hxin)
                    have HYI := Aside0.mk (TmS.all hyin)
                    have HXR := Aside0.mk ((HBR.out.block _ (blk_lt HX2.out)).trans HX2.out)
                    have HYR := Aside0.mk ((HBR.out.block _ (blk_lt HY2.out)).trans HY2.out)
                    obtain ⟨r, hr⟩ : ∃ r, sameT x y = r := ⟨_, rfl⟩
                    have HR := Aside0.mk hr
                    have hzr := HBA.out.size
                    have ca := fun (j : Nat) (v : Value) (h : (tmC (qq k) x)[j]? = some v) => hca j v h
                    have cb := fun (j : Nat) (v : Value) (h : (tmC (qr k) y)[j]? = some v) => hcb j v h
                    go_upto_region 15 with (fail)
                    refine spk_region wr w.heap.size (w.heap.size + 1) k p q t u ga oa gd od t.kids.length u.kids.length (qq k) (qr k) x y r HXR.out HYR.out hpK hqK rfl rfl (by omega) (by omega) (by omega) (by omega) hlt9 hlu9 (by omega)
                      (ca 0 _ rfl) (ca 1 _ rfl) (ca 2 _ rfl) (ca 3 _ rfl) (ca 4 _ rfl) (ca 5 _ rfl) (ca 6 _ rfl) (ca 7 _ rfl) (cb 0 _ rfl) (cb 1 _ rfl) (cb 2 _ rfl) (cb 3 _ rfl) (cb 4 _ rfl) (cb 5 _ rfl) (cb 6 _ rfl) (cb 7 _ rfl)
                      (fun w9 hb9 => by rw [← hr]; exact IH.out x (by have := HXL.out; have := HNN.out; omega) y (qq k) (qr k) w9 (below_all HXI.out hb9) (below_all HYI.out hb9)) ?_
                    intro w5 hch
                    have HB5 := Aside0.mk (below_then HBR.out HBR.out.size (hch.below (fun _ h => h.elim False.elim False.elim) (Nat.le_refl _)))
                    clear hch hca hcb hxin hyin hpK hqK hga hgd hqq hqr hxe hye ca cb hr
                    cases r with
                    | true =>
                      have HK2 := Aside0.mk (show alls t u ((List.finRange (nK t)).drop (k + 1)) = sameT t u by rw [← HK.out, HDF.out, HAL.out, HR.out, Bool.true_and])
                      go_wp2
                      go_roundw
                      case rel => exact ⟨k + 1, by go_num, by omega, HK2, HB5⟩
                      case measure => (simp [intOf]; try omega)
                    | false =>
                      have HK2 := Aside0.mk (show sameT t u = false by rw [← HK.out, HDF.out, HAL.out, HR.out, Bool.false_and])
                      have HFN := Aside0.mk (below_then HB2.out HB2.out.size HB5.out)
                      go_wp2
                      go_ret
                      rw [HK2.out]
                      exact ⟨rfl, HFN.out⟩
                  · obtain rfl : k = ar := by omega
                    have hlt' : decide ((k : Int) < k) = false := by simp
                    have HZ := Aside0.mk (show sameT t u = true by rw [← HK.out, List.drop_of_length_le (by rw [List.length_finRange, HAR.out]; exact Nat.le_refl _)]; rfl)
                    have HFN := Aside0.mk (below_then HB2.out HB2.out.size HBR.out)
                    go_wp2
                    go_ret
                    rw [HZ.out]
                    exact ⟨rfl, HFN.out⟩
      · refine spy_region W w.heap.size (w.heap.size + 1) p q t u la lb true HX.out HY.out hkk hla hlb (by simp [hll]) ?_
        intro w1 hch
        have hb1 : Below W.heap.size W w1 := hch.below (fun _ h => h.elim False.elim False.elim) (Nat.le_refl _)
        have HB1 := Aside0.mk (below_then HB.out HB.out.size hb1)
        have HX1 := Aside0.mk ((hb1.block _ (blk_lt HX.out)).trans HX.out)
        have HY1 := Aside0.mk ((hb1.block _ (blk_lt HY.out)).trans HY.out)
        have HKK := Aside0.mk hkk
        have HLA := Aside0.mk hla
        have HLB := Aside0.mk hlb
        clear hch hb1 hkk hla hlb HX HY
        have HE := Aside0.mk (sm_leaf HKK.out (by rw [HLA.out, HLB.out]; exact hll))
        clear hll
        go_wp2
        go_ret
        rw [HE.out]
        exact ⟨rfl, HB1.out⟩
    · refine spn_region W w.heap.size (w.heap.size + 1) p q t u HX.out HY.out hkk ?_
      intro w1 hch
      have HB1 := Aside0.mk (below_then HB.out HB.out.size (hch.below (fun _ h => h.elim False.elim False.elim) (Nat.le_refl _)))
      have HE := Aside0.mk (sm_kind hkk)
      clear hch hkk
      go_wp2
      go_ret
      rw [HE.out]
      exact ⟨rfl, HB1.out⟩
set_option maxRecDepth 100000 in
set_option maxHeartbeats 4000000 in
theorem tSame_calls (t u : Tm) (p q : Pl) (w : World) (hin : TmIn w w.heap.size p t) (hin2 : TmIn w w.heap.size q u) :
    Calls Try.prog 48 #[tmV p t, tmV q u] w fun e w' => e = .returned (.bool (SameT t u)) ∧ Below w.heap.size w w' := by
  have HIN := Aside0.mk hin
  have HIN2 := Aside0.mk hin2
  obtain ⟨W, hW⟩ : ∃ W, W = (w.alloc (tmO p t)).alloc (tmO q u) := ⟨_, rfl⟩
  have hb : Below w.heap.size w W := by rw [hW]; exact below_alloc (below_alloc (Below.refl _ _) _) _
  have HX := Aside0.mk (show W.heap[w.heap.size]? = some (tmO p t) by rw [hW]; exact box0 w _ _)
  have HY := Aside0.mk (show W.heap[w.heap.size + 1]? = some (tmO q u) by rw [hW]; exact box1 w _ _)
  have HB := Aside0.mk hb
  clear hin hin2 hb
  unfold tmV
  unfold tmO at hW
  go_enter Try.func48, Try.ntmps48
  go_upto_region 1 with (fail)
  rw [← hW]
  clear hW
  by_cases h1 : okT t
  · have HG1 := Aside0.mk (show greatB t = false by rw [great_eq]; simp [h1])
    by_cases h2 : okT u
    · have HG2 := Aside0.mk (show greatB u = false by rw [great_eq]; simp [h2])
      have HE := Aside0.mk (show SameT t u = sameT t u by unfold SameT; rw [decide_eq_true h1, decide_eq_true h2]; rfl)
      clear h1 h2
      go_wp2_with (first
        | (refine wpList_load_row rfl 28 _ rfl (w.heap.size) rfl 28 _ (0, 0) _ HX.out Try.underlying28 rfl (by kernel_rfl) ?_)
        | (go_at_call 85; go_must (refine (tsame_calls _ t (Nat.lt_succ_self _) u p q w2 (below_all HIN.out HB2.out) (below_all HIN2.out HB2.out)).mono ?_; rintro e w3 ⟨rfl, hb⟩; have HB3 := Aside0.mk (below_then HB2.out HB2.out.size hb); clear hb))
        | (have hgd := HB1; clear hgd; go_at_call 55; go_must (refine (great_calls u q w1 (below_all HIN2.out HB1.out)).mono ?_; rintro e w2 ⟨rfl, hb⟩; rw [HG2.out]; have HB2 := Aside0.mk (below_then HB1.out HB1.out.size hb); have HX2 := Aside0.mk ((hb.block _ (blk_lt HX1.out)).trans HX1.out); have HY2 := Aside0.mk ((hb.block _ (blk_lt HY1.out)).trans HY1.out); obtain ⟨a0, a1, a2, a3, a4, a5, a6, a7⟩ := row8 HX2.out; obtain ⟨z0, z1, z2, z3, z4, z5, z6, z7⟩ := row8 HY2.out; clear hb))
        | (go_at_call 55; go_must (refine (great_calls t p W (below_all HIN.out HB.out)).mono ?_; rintro e w1 ⟨rfl, hb⟩; rw [HG1.out]; have HB1 := Aside0.mk (below_then HB.out HB.out.size hb); have HX1 := Aside0.mk ((hb.block _ (blk_lt HX.out)).trans HX.out); have HY1 := Aside0.mk ((hb.block _ (blk_lt HY.out)).trans HY.out); obtain ⟨y0, y1, y2, y3, y4, y5, y6, y7⟩ := row8 HY1.out; clear hb)))
      go_ret
      rw [HE.out]
      exact ⟨rfl, HB3.out⟩
    · have HG2 := Aside0.mk (show greatB u = true by rw [great_eq]; simp [h2])
      have HE := Aside0.mk (show SameT t u = false by unfold SameT; rw [decide_eq_true h1, decide_eq_false h2]; rfl)
      clear h1 h2
      go_wp2_with (first
        | (refine wpList_load_row rfl 28 _ rfl (w.heap.size) rfl 28 _ (0, 0) _ HX.out Try.underlying28 rfl (by kernel_rfl) ?_)
        | (have hgd := HB1; clear hgd; go_at_call 55; go_must (refine (great_calls u q w1 (below_all HIN2.out HB1.out)).mono ?_; rintro e w2 ⟨rfl, hb⟩; rw [HG2.out]; have HB2 := Aside0.mk (below_then HB1.out HB1.out.size hb); have HX2 := Aside0.mk ((hb.block _ (blk_lt HX1.out)).trans HX1.out); have HY2 := Aside0.mk ((hb.block _ (blk_lt HY1.out)).trans HY1.out); obtain ⟨a0, a1, a2, a3, a4, a5, a6, a7⟩ := row8 HX2.out; obtain ⟨z0, z1, z2, z3, z4, z5, z6, z7⟩ := row8 HY2.out; clear hb))
        | (go_at_call 55; go_must (refine (great_calls t p W (below_all HIN.out HB.out)).mono ?_; rintro e w1 ⟨rfl, hb⟩; rw [HG1.out]; have HB1 := Aside0.mk (below_then HB.out HB.out.size hb); have HX1 := Aside0.mk ((hb.block _ (blk_lt HX.out)).trans HX.out); have HY1 := Aside0.mk ((hb.block _ (blk_lt HY.out)).trans HY.out); obtain ⟨y0, y1, y2, y3, y4, y5, y6, y7⟩ := row8 HY1.out; clear hb)))
      go_ret
      rw [HE.out]
      exact ⟨rfl, HB2.out⟩
  · have HG1 := Aside0.mk (show greatB t = true by rw [great_eq]; simp [h1])
    have HE := Aside0.mk (show SameT t u = false by unfold SameT; rw [decide_eq_false h1]; rfl)
    clear h1
    go_wp2_with (first
      | (refine wpList_load_row rfl 28 _ rfl (w.heap.size) rfl 28 _ (0, 0) _ HX.out Try.underlying28 rfl (by kernel_rfl) ?_)
      | (go_at_call 55; go_must (refine (great_calls t p W (below_all HIN.out HB.out)).mono ?_; rintro e w1 ⟨rfl, hb⟩; rw [HG1.out]; have HB1 := Aside0.mk (below_then HB.out HB.out.size hb); have HX1 := Aside0.mk ((hb.block _ (blk_lt HX.out)).trans HX.out); have HY1 := Aside0.mk ((hb.block _ (blk_lt HY.out)).trans HY.out); obtain ⟨y0, y1, y2, y3, y4, y5, y6, y7⟩ := row8 HY1.out; clear hb)))
    go_ret
    rw [HE.out]
    exact ⟨rfl, HB1.out⟩
end Go.Proofs.Ytdboloabpjmgaaa

/-! SeRl -/
namespace Go.Proofs.Ytdboloabpjmgaaa
open Go.RowKit Go.Proofs.YtdboloabpjmgaaaW.PrintWords Go.RegionInvYtdboloabpjmgaaa Go.RegionEYtdboloabpjmgaaa
set_option linter.unusedVariables false

theorem refEqual_at (A B : Option Addr) (c c' m m' : Nat) (k n k' n' : Int) (a b : Lv) (w : World) (hk : a.kind = k) (hn : a.num = n) (hm : a.kids.length = m) (hk' : b.kind = k') (hn' : b.num = n') (hm' : b.kids.length = m') (ha : LvIn w w.heap.size A c a) (hb : LvIn w w.heap.size B c' b) :
    Calls Try.prog 108 #[.agg #[.int .i64 k, .int .i64 n, .slice A m c], .agg #[.int .i64 k', .int .i64 n', .slice B m' c']] w fun e w' => e = .returned (.bool (eqP a b)) ∧ Below w.heap.size w w' := by
  subst hk hn hm hk' hn' hm'
  exact refEqual_calls A B c c' a b w ha hb

def srl_ops : List Oper := [
  { dst := some 59, op := Go.Op.fieldAddr 28 (Go.Operand.tmp 2) 4, type := 0, pos := "ref.go:335", after := #[], guard := none },
  { dst := some 60, op := Go.Op.load 23 (Go.Operand.tmp 59), type := 23, pos := "ref.go:335", after := #[{ on := 0, ground := Go.Ground.data }], guard := none },
  { dst := some 61, op := Go.Op.move (Go.Operand.tmp 5), type := 3, pos := "ref.go:335", after := #[], guard := none },
  { dst := some 62, op := Go.Op.indexAddr 23 (Go.Operand.tmp 60) (Go.Operand.tmp 61), type := 0, pos := "ref.go:335", after := #[{ on := 1, ground := Go.Ground.data }, { on := 2, ground := Go.Ground.data }], guard := none },
  { dst := some 63, op := Go.Op.load 25 (Go.Operand.tmp 62), type := 25, pos := "ref.go:335", after := #[{ on := 3, ground := Go.Ground.data }], guard := none },
  { dst := some 64, op := Go.Op.fieldAddr 28 (Go.Operand.tmp 3) 4, type := 0, pos := "ref.go:335", after := #[], guard := none },
  { dst := some 65, op := Go.Op.load 23 (Go.Operand.tmp 64), type := 23, pos := "ref.go:335", after := #[{ on := 5, ground := Go.Ground.data }], guard := none },
  { dst := some 66, op := Go.Op.move (Go.Operand.tmp 5), type := 3, pos := "ref.go:335", after := #[], guard := none },
  { dst := some 67, op := Go.Op.indexAddr 23 (Go.Operand.tmp 65) (Go.Operand.tmp 66), type := 0, pos := "ref.go:335", after := #[{ on := 6, ground := Go.Ground.data }, { on := 7, ground := Go.Ground.data }], guard := none },
  { dst := some 68, op := Go.Op.load 25 (Go.Operand.tmp 67), type := 25, pos := "ref.go:335", after := #[{ on := 8, ground := Go.Ground.data }], guard := none },
  { dst := some 69, op := Go.Op.call { callee := Go.Callee.value (Go.Operand.func 108), args := #[Go.Operand.tmp 63, Go.Operand.tmp 68], argTypes := #[25, 25] }, type := 4, pos := "ref.go:335", after := #[{ on := 4, ground := Go.Ground.data }, { on := 9, ground := Go.Ground.data }], guard := none },
  { dst := some 70, op := Go.Op.unOp Go.UnOp.not 4 (Go.Operand.tmp 69), type := 4, pos := "ref.go:335", after := #[{ on := 10, ground := Go.Ground.data }], guard := none }]
def srl_F (w0 : World) (g h i : Nat) (p q : Pl) (t u : Tm) (ga oa gd od m1 : Nat) (xk xn yk yn : Int) (A1 A2 : Option Addr) (n1 c1 n2 c2 : Nat) (r : Bool) : Nat → (Nat → Value) → Value → World → (Nat → Prop) → Prop := fun rix => match rix with
  | 0 => fun _ v _ _ => v = .pointer (some ⟨g, 6, none⟩)
  | 1 => fun _ v _ _ => v = .slice (some ⟨ga, oa, none⟩) m1 p.d
  | 2 => fun _ v _ _ => v = .int .i64 i
  | 3 => fun _ v _ _ => v = .pointer (some ⟨ga, oa + i * 3, none⟩)
  | 4 => fun _ v _ _ => v = .agg #[.int .i64 xk, .int .i64 xn, .slice A1 n1 c1]
  | 5 => fun _ v _ _ => v = .pointer (some ⟨h, 6, none⟩)
  | 6 => fun _ v _ _ => v = .slice (some ⟨gd, od, none⟩) m1 q.d
  | 7 => fun _ v _ _ => v = .int .i64 i
  | 8 => fun _ v _ _ => v = .pointer (some ⟨gd, od + i * 3, none⟩)
  | 9 => fun _ v _ _ => v = .agg #[.int .i64 yk, .int .i64 yn, .slice A2 n2 c2]
  | 10 => fun _ v _ _ => v = .bool r
  | 11 => fun _ v _ _ => v = .bool (!r)
  | _ => fun _ _ _ _ => True
def srl_C : Nat → List Nat := fun rix => match rix with
  | _ => []
theorem srl_nw2 : nwB srl_ops.toArray 2 = true := by kernel_rfl
theorem srl_nw3 : nwB srl_ops.toArray 3 = true := by kernel_rfl
theorem srl_nw5 : nwB srl_ops.toArray 5 = true := by kernel_rfl
set_option maxRecDepth 100000 in
set_option maxHeartbeats 8000000 in
theorem srl_obs (w0 : World) (g h i : Nat) (p q : Pl) (t u : Tm) (ga oa gd od m1 : Nat) (xk xn yk yn : Int) (A1 A2 : Option Addr) (n1 c1 n2 c2 : Nat) (r : Bool) (hx2 : w0.heap[g]? = some (tmO p t)) (hx3 : w0.heap[h]? = some (tmO q u)) (hpB : p.B = some ⟨ga, oa, none⟩) (hqB : q.B = some ⟨gd, od, none⟩) (hm1 : t.ls.length = m1) (hm2 : u.ls.length = m1) (hga : ga < w0.heap.size) (hgd : gd < w0.heap.size) (him : i < m1) (hm9 : m1 ≤ 9223372036854775807) (ca0 : w0.cell? ⟨ga, oa + i * 3, none⟩ = some (.int .i64 xk)) (ca1 : w0.cell? ⟨ga, oa + i * 3 + 1, none⟩ = some (.int .i64 xn)) (ca2 : w0.cell? ⟨ga, oa + i * 3 + 2, none⟩ = some (.slice A1 n1 c1)) (cb0 : w0.cell? ⟨gd, od + i * 3, none⟩ = some (.int .i64 yk)) (cb1 : w0.cell? ⟨gd, od + i * 3 + 1, none⟩ = some (.int .i64 yn)) (cb2 : w0.cell? ⟨gd, od + i * 3 + 2, none⟩ = some (.slice A2 n2 c2)) (hEQ : ∀ w, Below w0.heap.size w0 w → Calls Try.prog 108 #[.agg #[.int .i64 xk, .int .i64 xn, .slice A1 n1 c1], .agg #[.int .i64 yk, .int .i64 yn, .slice A2 n2 c2]] w fun e w' => e = .returned (.bool r) ∧ Below w.heap.size w w') (Q : Exit → Act → World → Prop) (a0 : Act) (hi2 : a0.tmps.getD 2 undef = .pointer (some ⟨g, 0, none⟩)) (hi3 : a0.tmps.getD 3 undef = .pointer (some ⟨h, 0, none⟩)) (hi5 : a0.tmps.getD 5 undef = .int .i64 i) :
    ObsE Try.prog srl_ops.toArray Q (est2 0 0 (fun _ => False) (fun _ => False)) srl_C (srl_F w0 g h i p q t u ga oa gd od m1 xk xn yk yn A1 A2 n1 c1 n2 c2 r) a0 w0 srl_ops.toArray.toList 0 := by
  have nw2 := srl_nw2
  have nw3 := srl_nw3
  have nw5 := srl_nw5
  refine ⟨?_, ?_, ?_, ?_, ?_, ?_, ?_, ?_, ?_, ?_, ?_, ?_, trivial⟩
  · refine ⟨⟨fun τ => stableE_det _, leans_not⟩, ?_⟩
    intro a w O hk
    have e2 : a.eval (.tmp 2) = .pointer (some ⟨g, 0, none⟩) := (hk.init 2 (initialB_of_nw nw2)).trans hi2
    have x2 := hk.world.still hx2 (fun ⟨_, h⟩ => h.elim And.right And.right)
    have x3 := hk.world.still hx3 (fun ⟨_, h⟩ => h.elim And.right And.right)
    have hcc : ∀ j, w.cell? ⟨ga, j, none⟩ = w0.cell? ⟨ga, j, none⟩ := fun j => cell_same ((hk.world.below (fun k ⟨_, h⟩ => h.elim (fun h => h.2.elim) fun h => h.2.elim) (Nat.le_refl _)).block _ hga)
    have hcd : ∀ j, w.cell? ⟨gd, j, none⟩ = w0.cell? ⟨gd, j, none⟩ := fun j => cell_same ((hk.world.below (fun k ⟨_, h⟩ => h.elim (fun h => h.2.elim) fun h => h.2.elim) (Nat.le_refl _)).block _ hgd)
    have hbl : Below w0.heap.size w0 w := (hk.world.below (fun k ⟨_, h⟩ => h.elim (fun h => h.2.elim) fun h => h.2.elim) (Nat.le_refl _))
    exact obE_run (wanted_none rfl) (by unfold execOp; simp only []; rw [e2]; go_simp) rfl
  · refine ⟨⟨fun τ => stableE_det _, leans_not⟩, ?_⟩
    intro a w O hk
    have e59 : a.eval (.tmp 59) = .pointer (some ⟨g, 6, none⟩) := hk.fact 0 _ 59 rfl rfl rfl rfl
    have x2 := hk.world.still hx2 (fun ⟨_, h⟩ => h.elim And.right And.right)
    have x3 := hk.world.still hx3 (fun ⟨_, h⟩ => h.elim And.right And.right)
    have hcc : ∀ j, w.cell? ⟨ga, j, none⟩ = w0.cell? ⟨ga, j, none⟩ := fun j => cell_same ((hk.world.below (fun k ⟨_, h⟩ => h.elim (fun h => h.2.elim) fun h => h.2.elim) (Nat.le_refl _)).block _ hga)
    have hcd : ∀ j, w.cell? ⟨gd, j, none⟩ = w0.cell? ⟨gd, j, none⟩ := fun j => cell_same ((hk.world.below (fun k ⟨_, h⟩ => h.elim (fun h => h.2.elim) fun h => h.2.elim) (Nat.le_refl _)).block _ hgd)
    have hbl : Below w0.heap.size w0 w := (hk.world.below (fun k ⟨_, h⟩ => h.elim (fun h => h.2.elim) fun h => h.2.elim) (Nat.le_refl _))
    obtain ⟨p0, p1, p2, p3, p4, p5, p6, p7⟩ := row8 x2
    rw [hpB, hm1] at p6
    exact obE_run (wanted_none rfl) (by unfold execOp; simp only []; rw [e59]; go_simp) rfl
  · refine ⟨⟨fun τ => stableE_det _, leans_not⟩, ?_⟩
    intro a w O hk
    have e5 : a.eval (.tmp 5) = .int .i64 i := (hk.init 5 (initialB_of_nw nw5)).trans hi5
    exact toE (ob_move rfl e5 (wanted_none rfl) rfl)
  · refine ⟨⟨fun τ => stableE_det _, leans_not⟩, ?_⟩
    intro a w O hk
    have e60 : a.eval (.tmp 60) = .slice (some ⟨ga, oa, none⟩) m1 p.d := hk.fact 1 _ 60 rfl rfl rfl rfl
    have e61 : a.eval (.tmp 61) = .int .i64 i := hk.fact 2 _ 61 rfl rfl rfl rfl
    have x2 := hk.world.still hx2 (fun ⟨_, h⟩ => h.elim And.right And.right)
    have x3 := hk.world.still hx3 (fun ⟨_, h⟩ => h.elim And.right And.right)
    have hcc : ∀ j, w.cell? ⟨ga, j, none⟩ = w0.cell? ⟨ga, j, none⟩ := fun j => cell_same ((hk.world.below (fun k ⟨_, h⟩ => h.elim (fun h => h.2.elim) fun h => h.2.elim) (Nat.le_refl _)).block _ hga)
    have hcd : ∀ j, w.cell? ⟨gd, j, none⟩ = w0.cell? ⟨gd, j, none⟩ := fun j => cell_same ((hk.world.below (fun k ⟨_, h⟩ => h.elim (fun h => h.2.elim) fun h => h.2.elim) (Nat.le_refl _)).block _ hgd)
    have hbl : Below w0.heap.size w0 w := (hk.world.below (fun k ⟨_, h⟩ => h.elim (fun h => h.2.elim) fun h => h.2.elim) (Nat.le_refl _))
    exact obE_run (wanted_none rfl) (by unfold execOp; simp only []; rw [e60, e61]; go_simp) rfl
  · refine ⟨⟨fun τ => stableE_det _, leans_not⟩, ?_⟩
    intro a w O hk
    have e62 : a.eval (.tmp 62) = .pointer (some ⟨ga, oa + i * 3, none⟩) := hk.fact 3 _ 62 rfl rfl rfl rfl
    have x2 := hk.world.still hx2 (fun ⟨_, h⟩ => h.elim And.right And.right)
    have x3 := hk.world.still hx3 (fun ⟨_, h⟩ => h.elim And.right And.right)
    have hcc : ∀ j, w.cell? ⟨ga, j, none⟩ = w0.cell? ⟨ga, j, none⟩ := fun j => cell_same ((hk.world.below (fun k ⟨_, h⟩ => h.elim (fun h => h.2.elim) fun h => h.2.elim) (Nat.le_refl _)).block _ hga)
    have hcd : ∀ j, w.cell? ⟨gd, j, none⟩ = w0.cell? ⟨gd, j, none⟩ := fun j => cell_same ((hk.world.below (fun k ⟨_, h⟩ => h.elim (fun h => h.2.elim) fun h => h.2.elim) (Nat.le_refl _)).block _ hgd)
    have hbl : Below w0.heap.size w0 w := (hk.world.below (fun k ⟨_, h⟩ => h.elim (fun h => h.2.elim) fun h => h.2.elim) (Nat.le_refl _))
    have r0 := (hcc _).trans ca0
    have r1 := (hcc _).trans ca1
    have r2 := (hcc _).trans ca2
    exact obE_run (wanted_none rfl) (by unfold execOp; simp only []; rw [e62]; go_simp) rfl
  · refine ⟨⟨fun τ => stableE_det _, leans_not⟩, ?_⟩
    intro a w O hk
    have e3 : a.eval (.tmp 3) = .pointer (some ⟨h, 0, none⟩) := (hk.init 3 (initialB_of_nw nw3)).trans hi3
    have x2 := hk.world.still hx2 (fun ⟨_, h⟩ => h.elim And.right And.right)
    have x3 := hk.world.still hx3 (fun ⟨_, h⟩ => h.elim And.right And.right)
    have hcc : ∀ j, w.cell? ⟨ga, j, none⟩ = w0.cell? ⟨ga, j, none⟩ := fun j => cell_same ((hk.world.below (fun k ⟨_, h⟩ => h.elim (fun h => h.2.elim) fun h => h.2.elim) (Nat.le_refl _)).block _ hga)
    have hcd : ∀ j, w.cell? ⟨gd, j, none⟩ = w0.cell? ⟨gd, j, none⟩ := fun j => cell_same ((hk.world.below (fun k ⟨_, h⟩ => h.elim (fun h => h.2.elim) fun h => h.2.elim) (Nat.le_refl _)).block _ hgd)
    have hbl : Below w0.heap.size w0 w := (hk.world.below (fun k ⟨_, h⟩ => h.elim (fun h => h.2.elim) fun h => h.2.elim) (Nat.le_refl _))
    exact obE_run (wanted_none rfl) (by unfold execOp; simp only []; rw [e3]; go_simp) rfl
  · refine ⟨⟨fun τ => stableE_det _, leans_not⟩, ?_⟩
    intro a w O hk
    have e64 : a.eval (.tmp 64) = .pointer (some ⟨h, 6, none⟩) := hk.fact 5 _ 64 rfl rfl rfl rfl
    have x2 := hk.world.still hx2 (fun ⟨_, h⟩ => h.elim And.right And.right)
    have x3 := hk.world.still hx3 (fun ⟨_, h⟩ => h.elim And.right And.right)
    have hcc : ∀ j, w.cell? ⟨ga, j, none⟩ = w0.cell? ⟨ga, j, none⟩ := fun j => cell_same ((hk.world.below (fun k ⟨_, h⟩ => h.elim (fun h => h.2.elim) fun h => h.2.elim) (Nat.le_refl _)).block _ hga)
    have hcd : ∀ j, w.cell? ⟨gd, j, none⟩ = w0.cell? ⟨gd, j, none⟩ := fun j => cell_same ((hk.world.below (fun k ⟨_, h⟩ => h.elim (fun h => h.2.elim) fun h => h.2.elim) (Nat.le_refl _)).block _ hgd)
    have hbl : Below w0.heap.size w0 w := (hk.world.below (fun k ⟨_, h⟩ => h.elim (fun h => h.2.elim) fun h => h.2.elim) (Nat.le_refl _))
    obtain ⟨p0, p1, p2, p3, p4, p5, p6, p7⟩ := row8 x3
    rw [hqB, hm2] at p6
    exact obE_run (wanted_none rfl) (by unfold execOp; simp only []; rw [e64]; go_simp) rfl
  · refine ⟨⟨fun τ => stableE_det _, leans_not⟩, ?_⟩
    intro a w O hk
    have e5 : a.eval (.tmp 5) = .int .i64 i := (hk.init 5 (initialB_of_nw nw5)).trans hi5
    exact toE (ob_move rfl e5 (wanted_none rfl) rfl)
  · refine ⟨⟨fun τ => stableE_det _, leans_not⟩, ?_⟩
    intro a w O hk
    have e65 : a.eval (.tmp 65) = .slice (some ⟨gd, od, none⟩) m1 q.d := hk.fact 6 _ 65 rfl rfl rfl rfl
    have e66 : a.eval (.tmp 66) = .int .i64 i := hk.fact 7 _ 66 rfl rfl rfl rfl
    have x2 := hk.world.still hx2 (fun ⟨_, h⟩ => h.elim And.right And.right)
    have x3 := hk.world.still hx3 (fun ⟨_, h⟩ => h.elim And.right And.right)
    have hcc : ∀ j, w.cell? ⟨ga, j, none⟩ = w0.cell? ⟨ga, j, none⟩ := fun j => cell_same ((hk.world.below (fun k ⟨_, h⟩ => h.elim (fun h => h.2.elim) fun h => h.2.elim) (Nat.le_refl _)).block _ hga)
    have hcd : ∀ j, w.cell? ⟨gd, j, none⟩ = w0.cell? ⟨gd, j, none⟩ := fun j => cell_same ((hk.world.below (fun k ⟨_, h⟩ => h.elim (fun h => h.2.elim) fun h => h.2.elim) (Nat.le_refl _)).block _ hgd)
    have hbl : Below w0.heap.size w0 w := (hk.world.below (fun k ⟨_, h⟩ => h.elim (fun h => h.2.elim) fun h => h.2.elim) (Nat.le_refl _))
    exact obE_run (wanted_none rfl) (by unfold execOp; simp only []; rw [e65, e66]; go_simp) rfl
  · refine ⟨⟨fun τ => stableE_det _, leans_not⟩, ?_⟩
    intro a w O hk
    have e67 : a.eval (.tmp 67) = .pointer (some ⟨gd, od + i * 3, none⟩) := hk.fact 8 _ 67 rfl rfl rfl rfl
    have x2 := hk.world.still hx2 (fun ⟨_, h⟩ => h.elim And.right And.right)
    have x3 := hk.world.still hx3 (fun ⟨_, h⟩ => h.elim And.right And.right)
    have hcc : ∀ j, w.cell? ⟨ga, j, none⟩ = w0.cell? ⟨ga, j, none⟩ := fun j => cell_same ((hk.world.below (fun k ⟨_, h⟩ => h.elim (fun h => h.2.elim) fun h => h.2.elim) (Nat.le_refl _)).block _ hga)
    have hcd : ∀ j, w.cell? ⟨gd, j, none⟩ = w0.cell? ⟨gd, j, none⟩ := fun j => cell_same ((hk.world.below (fun k ⟨_, h⟩ => h.elim (fun h => h.2.elim) fun h => h.2.elim) (Nat.le_refl _)).block _ hgd)
    have hbl : Below w0.heap.size w0 w := (hk.world.below (fun k ⟨_, h⟩ => h.elim (fun h => h.2.elim) fun h => h.2.elim) (Nat.le_refl _))
    have r0 := (hcd _).trans cb0
    have r1 := (hcd _).trans cb1
    have r2 := (hcd _).trans cb2
    exact obE_run (wanted_none rfl) (by unfold execOp; simp only []; rw [e67]; go_simp) rfl
  · refine ⟨⟨fun τ => stableE_det _, leans_not⟩, ?_⟩
    intro a w O hk
    have e63 : a.eval (.tmp 63) = .agg #[.int .i64 xk, .int .i64 xn, .slice A1 n1 c1] := hk.fact 4 _ 63 rfl rfl rfl rfl
    have e68 : a.eval (.tmp 68) = .agg #[.int .i64 yk, .int .i64 yn, .slice A2 n2 c2] := hk.fact 9 _ 68 rfl rfl rfl rfl
    have x2 := hk.world.still hx2 (fun ⟨_, h⟩ => h.elim And.right And.right)
    have x3 := hk.world.still hx3 (fun ⟨_, h⟩ => h.elim And.right And.right)
    have hcc : ∀ j, w.cell? ⟨ga, j, none⟩ = w0.cell? ⟨ga, j, none⟩ := fun j => cell_same ((hk.world.below (fun k ⟨_, h⟩ => h.elim (fun h => h.2.elim) fun h => h.2.elim) (Nat.le_refl _)).block _ hga)
    have hcd : ∀ j, w.cell? ⟨gd, j, none⟩ = w0.cell? ⟨gd, j, none⟩ := fun j => cell_same ((hk.world.below (fun k ⟨_, h⟩ => h.elim (fun h => h.2.elim) fun h => h.2.elim) (Nat.le_refl _)).block _ hgd)
    have hbl : Below w0.heap.size w0 w := (hk.world.below (fun k ⟨_, h⟩ => h.elim (fun h => h.2.elim) fun h => h.2.elim) (Nat.le_refl _))
    exact obE_callV #[.agg #[.int .i64 xk, .int .i64 xn, .slice A1 n1 c1], .agg #[.int .i64 yk, .int .i64 yn, .slice A2 n2 c2]] rfl rfl rfl rfl (by simp only [List.map_cons, List.map_nil]; rw [e63, e68]) (wanted_none rfl) (hEQ w hbl)
  · refine ⟨⟨fun τ => stableE_det _, leans_not⟩, ?_⟩
    intro a w O hk
    have e69 : a.eval (.tmp 69) = .bool r := hk.fact 10 _ 69 rfl rfl rfl rfl
    have x2 := hk.world.still hx2 (fun ⟨_, h⟩ => h.elim And.right And.right)
    have x3 := hk.world.still hx3 (fun ⟨_, h⟩ => h.elim And.right And.right)
    have hcc : ∀ j, w.cell? ⟨ga, j, none⟩ = w0.cell? ⟨ga, j, none⟩ := fun j => cell_same ((hk.world.below (fun k ⟨_, h⟩ => h.elim (fun h => h.2.elim) fun h => h.2.elim) (Nat.le_refl _)).block _ hga)
    have hcd : ∀ j, w.cell? ⟨gd, j, none⟩ = w0.cell? ⟨gd, j, none⟩ := fun j => cell_same ((hk.world.below (fun k ⟨_, h⟩ => h.elim (fun h => h.2.elim) fun h => h.2.elim) (Nat.le_refl _)).block _ hgd)
    have hbl : Below w0.heap.size w0 w := (hk.world.below (fun k ⟨_, h⟩ => h.elim (fun h => h.2.elim) fun h => h.2.elim) (Nat.le_refl _))
    exact obE_run (wanted_none rfl) (by unfold execOp; simp only []; rw [e69]; go_simp) rfl
set_option maxRecDepth 100000 in
set_option maxHeartbeats 8000000 in
theorem srl_region {Q : Exit → Act → World → Prop} {id : Nat} (w0 : World) (g h i : Nat) (p q : Pl) (t u : Tm) (ga oa gd od m1 : Nat) (xk xn yk yn : Int) (A1 A2 : Option Addr) (n1 c1 n2 c2 : Nat) (r : Bool) {s0 s1 s4 s6 s7 s8 s9 s10 s11 s12 s13 s14 s15 s16 s17 s18 s19 s20 s21 s22 s23 s24 s25 s26 s27 s28 s29 s30 s31 s32 s33 s34 s35 s36 s37 s38 s39 s40 s41 s42 s43 s44 s45 s46 s47 s48 s49 s50 s51 s52 s53 s54 s55 s56 s57 s58 s59 s60 s61 s62 s63 s64 s65 s66 s67 s68 s69 s70 s71 s72 s73 s74 s75 s76 s77 s78 s79 s80 s81 s82 s83 s84 s85 s86 s87 s88 s89 s90 : Value} (hx2 : w0.heap[g]? = some (tmO p t)) (hx3 : w0.heap[h]? = some (tmO q u)) (hpB : p.B = some ⟨ga, oa, none⟩) (hqB : q.B = some ⟨gd, od, none⟩) (hm1 : t.ls.length = m1) (hm2 : u.ls.length = m1) (hga : ga < w0.heap.size) (hgd : gd < w0.heap.size) (him : i < m1) (hm9 : m1 ≤ 9223372036854775807) (ca0 : w0.cell? ⟨ga, oa + i * 3, none⟩ = some (.int .i64 xk)) (ca1 : w0.cell? ⟨ga, oa + i * 3 + 1, none⟩ = some (.int .i64 xn)) (ca2 : w0.cell? ⟨ga, oa + i * 3 + 2, none⟩ = some (.slice A1 n1 c1)) (cb0 : w0.cell? ⟨gd, od + i * 3, none⟩ = some (.int .i64 yk)) (cb1 : w0.cell? ⟨gd, od + i * 3 + 1, none⟩ = some (.int .i64 yn)) (cb2 : w0.cell? ⟨gd, od + i * 3 + 2, none⟩ = some (.slice A2 n2 c2)) (hEQ : ∀ w, Below w0.heap.size w0 w → Calls Try.prog 108 #[.agg #[.int .i64 xk, .int .i64 xn, .slice A1 n1 c1], .agg #[.int .i64 yk, .int .i64 yn, .slice A2 n2 c2]] w fun e w' => e = .returned (.bool r) ∧ Below w.heap.size w w')
    (hend : ∀ (w' : World), Chg (fun k => False ∨ False) w0 w' → Q .normal { tmps := (s0 :: s1 :: (.pointer (some ⟨g, 0, none⟩)) :: (.pointer (some ⟨h, 0, none⟩)) :: s4 :: (.int .i64 i) :: s6 :: s7 :: s8 :: s9 :: s10 :: s11 :: s12 :: s13 :: s14 :: s15 :: s16 :: s17 :: s18 :: s19 :: s20 :: s21 :: s22 :: s23 :: s24 :: s25 :: s26 :: s27 :: s28 :: s29 :: s30 :: s31 :: s32 :: s33 :: s34 :: s35 :: s36 :: s37 :: s38 :: s39 :: s40 :: s41 :: s42 :: s43 :: s44 :: s45 :: s46 :: s47 :: s48 :: s49 :: s50 :: s51 :: s52 :: s53 :: s54 :: s55 :: s56 :: s57 :: s58 :: (.pointer (some ⟨g, 6, none⟩)) :: (.slice (some ⟨ga, oa, none⟩) m1 p.d) :: (.int .i64 i) :: (.pointer (some ⟨ga, oa + i * 3, none⟩)) :: (.agg #[.int .i64 xk, .int .i64 xn, .slice A1 n1 c1]) :: (.pointer (some ⟨h, 6, none⟩)) :: (.slice (some ⟨gd, od, none⟩) m1 q.d) :: (.int .i64 i) :: (.pointer (some ⟨gd, od + i * 3, none⟩)) :: (.agg #[.int .i64 yk, .int .i64 yn, .slice A2 n2 c2]) :: (.bool r) :: (.bool (!r)) :: s71 :: s72 :: s73 :: s74 :: s75 :: s76 :: s77 :: s78 :: s79 :: s80 :: s81 :: s82 :: s83 :: s84 :: s85 :: s86 :: s87 :: s88 :: s89 :: s90 :: [] : List Value).toArray, defers := [] } w') :
    (Code.region id srl_ops.toArray true).wp Try.prog Q { tmps := (s0 :: s1 :: (.pointer (some ⟨g, 0, none⟩)) :: (.pointer (some ⟨h, 0, none⟩)) :: s4 :: (.int .i64 i) :: s6 :: s7 :: s8 :: s9 :: s10 :: s11 :: s12 :: s13 :: s14 :: s15 :: s16 :: s17 :: s18 :: s19 :: s20 :: s21 :: s22 :: s23 :: s24 :: s25 :: s26 :: s27 :: s28 :: s29 :: s30 :: s31 :: s32 :: s33 :: s34 :: s35 :: s36 :: s37 :: s38 :: s39 :: s40 :: s41 :: s42 :: s43 :: s44 :: s45 :: s46 :: s47 :: s48 :: s49 :: s50 :: s51 :: s52 :: s53 :: s54 :: s55 :: s56 :: s57 :: s58 :: s59 :: s60 :: s61 :: s62 :: s63 :: s64 :: s65 :: s66 :: s67 :: s68 :: s69 :: s70 :: s71 :: s72 :: s73 :: s74 :: s75 :: s76 :: s77 :: s78 :: s79 :: s80 :: s81 :: s82 :: s83 :: s84 :: s85 :: s86 :: s87 :: s88 :: s89 :: s90 :: [] : List Value).toArray, defers := [] } w0 := by
  refine wp_region_est (by kernel_rfl) (est2 0 0 (fun _ => False) (fun _ => False)) srl_C (srl_F w0 g h i p q t u ga oa gd od m1 xk xn yk yn A1 A2 n1 c1 n2 c2 r) (est2_dis (fun _ h _ => h)) (est2_range (fun _ h => h.elim) (fun _ h => h.elim)) (by rfl) (by kernel_rfl) (srl_obs w0.drew g h i p q t u ga oa gd od m1 xk xn yk yn A1 A2 n1 c1 n2 c2 r hx2 hx3 hpB hqB hm1 hm2 hga hgd him hm9 ca0 ca1 ca2 cb0 cb1 cb2 (fun w h => hEQ w (below_undrew h)) _ _ rfl rfl rfl) ?_
  intro a w' O hd hs hb hf hf2 ha hsame
  have hl := slots_eq (ops := srl_ops.toArray) [(59, .pointer (some ⟨g, 6, none⟩)), (60, .slice (some ⟨ga, oa, none⟩) m1 p.d), (61, .int .i64 i), (62, .pointer (some ⟨ga, oa + i * 3, none⟩)), (63, .agg #[.int .i64 xk, .int .i64 xn, .slice A1 n1 c1]), (64, .pointer (some ⟨h, 6, none⟩)), (65, .slice (some ⟨gd, od, none⟩) m1 q.d), (66, .int .i64 i), (67, .pointer (some ⟨gd, od + i * 3, none⟩)), (68, .agg #[.int .i64 yk, .int .i64 yn, .slice A2 n2 c2]), (69, .bool r), (70, .bool (!r))] (show a.tmps.size = 91 from hs) (fun i h => hsame i h) ⟨(hf 0 _ 59 rfl rfl (by decide)).1, (hf 1 _ 60 rfl rfl (by decide)).1, (hf 2 _ 61 rfl rfl (by decide)).1, (hf 3 _ 62 rfl rfl (by decide)).1, (hf 4 _ 63 rfl rfl (by decide)).1, (hf 5 _ 64 rfl rfl (by decide)).1, (hf 6 _ 65 rfl rfl (by decide)).1, (hf 7 _ 66 rfl rfl (by decide)).1, (hf 8 _ 67 rfl rfl (by decide)).1, (hf 9 _ 68 rfl rfl (by decide)).1, (hf 10 _ 69 rfl rfl (by decide)).1, (hf 11 _ 70 rfl rfl (by decide)).1, trivial⟩ (by kernel_rfl)
  obtain ⟨tmps, defers⟩ := a
  obtain rfl : defers = [] := hd
  have hl' : tmps = _ := hl
  rw [hl']
  have hb' := est2_chg hb
  refine Eq.mp ?_ (hend w' ⟨hb'.os, hb'.tape, hb'.output, hb'.size, hb'.block⟩)
  kernel_rfl

end Go.Proofs.Ytdboloabpjmgaaa

/-! SeWr -/
namespace Go.Proofs.Ytdboloabpjmgaaa
open Go.RowKit Go.Proofs.YtdboloabpjmgaaaW.PrintWords Go.RegionInvYtdboloabpjmgaaa Go.RegionEYtdboloabpjmgaaa

theorem sm_leafR {t u : Tm} (h : leafR t ≠ leafR u) : sameT t u = false := by
  rw [same_eq]
  unfold hdB
  have : (leafR t == leafR u) = false := by simpa using h
  rw [this]
  simp
theorem sm_leafRs {t u : Tm} (hk : t.kind = u.kind) (h : leafR t = true) (h2 : leafR u = true) : sameT t u = true := by
  rw [same_leaf (leafT_of (nK_leaf h))]
  unfold hdB
  rw [decide_eq_true hk, h, h2]
  rfl
theorem leafR_not {t : Tm} (h : leafR t = false) (h1 : t.kind ≠ 1) (h2 : t.kind ≠ 2) (h7 : t.kind ≠ 7) : leafT t = false := by
  cases hl : leafT t with
  | false => rfl
  | true => rw [leafR_leaf hl h1 h2 h7] at h; cases h
set_option maxRecDepth 100000 in
set_option maxHeartbeats 4000000 in
theorem rsame_calls (N : Nat) : ∀ (t : Tm), SizeOf.sizeOf t < N → ∀ (u : Tm) (p q : Pl) (w : World), TmIn w w.heap.size p t → TmIn w w.heap.size q u →
    Calls Try.prog 86 #[tmV p t, tmV q u] w fun e w' => e = .returned (.bool (sameT t u)) ∧ Below w.heap.size w w' := by
  induction N with
  | zero => intro t h; omega
  | succ N ih =>
    intro t hN u p q w hin hin2
    have IH := Aside0.mk ih
    have HNN := Aside0.mk hN
    have HIN := Aside0.mk hin
    have HIN2 := Aside0.mk hin2
    have hlt := hin.len
    have hlu := hin2.len
    have hlt9 : t.kids.length ≤ 9223372036854775807 := by omega
    have hlu9 : u.kids.length ≤ 9223372036854775807 := by omega
    have hfl := hin.ls.len
    have hfu := hin2.ls.len
    simp only [Lv.kids] at hfl hfu
    obtain ⟨W, hW⟩ : ∃ W, W = (w.alloc (tmO p t)).alloc (tmO q u) := ⟨_, rfl⟩
    have hb : Below w.heap.size w W := by rw [hW]; exact below_alloc (below_alloc (Below.refl _ _) _) _
    have HX := Aside0.mk (show W.heap[w.heap.size]? = some (tmO p t) by rw [hW]; exact box0 w _ _)
    have HY := Aside0.mk (show W.heap[w.heap.size + 1]? = some (tmO q u) by rw [hW]; exact box1 w _ _)
    have HB := Aside0.mk hb
    clear ih hN hin hin2 hb
    unfold tmV
    unfold tmO at hW
    go_enter Try.func86, Try.ntmps86
    go_upto_region 1 with (fail)
    rw [← hW]
    clear hW
    by_cases hkk : t.kind = u.kind
    · obtain ⟨la, hla⟩ : ∃ x, leafR t = x := ⟨_, rfl⟩
      obtain ⟨lb, hlb⟩ : ∃ x, leafR u = x := ⟨_, rfl⟩
      by_cases hll : la = lb
      · refine sry_region W w.heap.size (w.heap.size + 1) p q t u la lb false HX.out HY.out hkk hla hlb (by simp [hll]) hlt9 hlu9 ?_
        intro w1 hch
        have hb1 : Below W.heap.size W w1 := hch.below (fun _ h => h.elim False.elim False.elim) (Nat.le_refl _)
        have HB1 := Aside0.mk (below_then HB.out HB.out.size hb1)
        have HX1 := Aside0.mk ((hb1.block _ (blk_lt HX.out)).trans HX.out)
        have HY1 := Aside0.mk ((hb1.block _ (blk_lt HY.out)).trans HY.out)
        have HKK := Aside0.mk hkk
        have HLA := Aside0.mk hla
        have HLB := Aside0.mk hlb
        clear hch hb1 hkk hla hlb HX HY
        subst hll
        obtain ⟨p0, p1, p2, p3, p4, p5, p6, p7⟩ := row8 HX1.out
        obtain ⟨q0, q1, q2, q3, q4, q5, q6, q7⟩ := row8 HY1.out
        clear p0 p1 p2 p3 p4 p5 p6 p7 q0 q1 q2 q3 q4 q5 q6 q7
        cases la with
        | true =>
          have HE := Aside0.mk (sm_leafRs HKK.out HLA.out HLB.out)
          go_wp2_with (first
            | (refine wpList_load_row rfl 28 _ rfl (w.heap.size) rfl 28 _ (0, 0) _ HX1.out Try.underlying28 rfl (by kernel_rfl) ?_)
            | (go_at_call 77; go_must (refine (refleaf_calls t p w1 hlt9).mono ?_; rintro e w2 ⟨rfl, hb⟩; rw [HLA.out]; have HB2 := Aside0.mk (below_then HB1.out HB1.out.size hb); have HX2 := Aside0.mk ((hb.block _ (blk_lt HX1.out)).trans HX1.out); have HY2 := Aside0.mk ((hb.block _ (blk_lt HY1.out)).trans HY1.out); obtain ⟨p0, p1, p2, p3, p4, p5, p6, p7⟩ := row8 HX2.out; obtain ⟨q0, q1, q2, q3, q4, q5, q6, q7⟩ := row8 HY2.out; clear hb)))
          go_ret
          rw [HE.out]
          exact ⟨rfl, HB2.out⟩
        | false =>
          go_upto_region 5 with (first
            | (refine wpList_load_row rfl 28 _ rfl (w.heap.size) rfl 28 _ (0, 0) _ HX1.out Try.underlying28 rfl (by kernel_rfl) ?_)
            | (go_at_call 77; go_must (refine (refleaf_calls t p w1 hlt9).mono ?_; rintro e w2 ⟨rfl, hb⟩; rw [HLA.out]; have HB2 := Aside0.mk (below_then HB1.out HB1.out.size hb); have HX2 := Aside0.mk ((hb.block _ (blk_lt HX1.out)).trans HX1.out); have HY2 := Aside0.mk ((hb.block _ (blk_lt HY1.out)).trans HY1.out); obtain ⟨p0, p1, p2, p3, p4, p5, p6, p7⟩ := row8 HX2.out; obtain ⟨q0, q1, q2, q3, q4, q5, q6, q7⟩ := row8 HY2.out; clear hb)))
          by_cases k1 : t.kind = 1
          · have b1 : (t.kind == 1) = true := by simp [k1]
            have HE := Aside0.mk (sm_var HKK.out k1)
            clear k1
            go_wp2
            go_ret
            rw [HE.out]
            exact ⟨rfl, HB2.out⟩
          · have b1 : (t.kind == 1) = false := by simp [k1]
            by_cases k2 : t.kind = 2
            · have b2 : (t.kind == 2) = true := by simp [k2]
              have HE := Aside0.mk (sm_sort HKK.out k2)
              clear k1 k2
              go_wp2_with (go_at_call 108; go_must (refine (refEqual_at p.A q.A p.c q.c _ _ _ _ _ _ t.lv u.lv w2 rfl rfl rfl rfl rfl rfl (below_all HIN.out HB2.out).lv.all (below_all HIN2.out HB2.out).lv.all).mono ?_; rintro e w3 ⟨rfl, hb⟩; have HB3 := Aside0.mk (below_then HB2.out HB2.out.size hb); clear hb))
              go_ret
              rw [HE.out]
              exact ⟨rfl, HB3.out⟩
            · have b2 : (t.kind == 2) = false := by simp [k2]
              by_cases k7 : t.kind = 7
              · have b7 : (t.kind == 7) = true := by simp [k7]
                have HE := Aside0.mk (sm_const HKK.out k7)
                clear k1 k2 k7
                by_cases hn : t.name.toList = u.name.toList
                case neg =>
                  have HE2 := Aside0.mk (show sameT t u = false by rw [HE.out, show (t.name.toList == u.name.toList) = false by simpa using hn, Bool.false_and])
                  go_wp2
                  go_ret
                  rw [HE2.out]
                  exact ⟨rfl, HB2.out⟩
                case pos =>
                  have HE2 := Aside0.mk (show sameT t u = lvsEq t.ls u.ls by rw [HE.out, show (t.name.toList == u.name.toList) = true by simpa using hn, Bool.true_and])
                  obtain ⟨M, hM1⟩ : ∃ M, t.ls.length = M := ⟨_, rfl⟩
                  obtain ⟨M2, hM2⟩ : ∃ M, u.ls.length = M := ⟨_, rfl⟩
                  have HM1 := Aside0.mk hM1
                  rw [hM1] at p6 hfl
                  rw [hM2] at q6 hfu
                  clear hM1
                  by_cases hmm : M = M2
                  · subst hmm
                    have HM2 := Aside0.mk hM2
                    have bm : ((M : Int) != (M : Int)) = false := by simp
                    clear hM2
                    go_wp2
                    clear hn p0 p1 p2 p3 p4 p5 p6 p7 q0 q1 q2 q3 q4 q5 q6 q7
                    go_loopw [56] (fun i wr => ∃ k : Nat, i = .int .i64 k ∧ k ≤ M ∧ Aside0 (lvsEq (t.ls.drop k) (u.ls.drop k) = lvsEq t.ls u.ls) ∧ Aside0 (Below w2.heap.size w2 wr)) (fun i _ => M - (intOf i).toNat)
                    case atStart => exact ⟨0, rfl, Nat.zero_le _, ⟨rfl⟩, ⟨Below.refl _ _⟩⟩
                    case round =>
                      obtain ⟨k, rfl, hk, HK, HBR⟩ := hrel
                      by_cases hlk : k < M
                      · obtain ⟨x, hx⟩ : ∃ x, t.ls[k]? = some x := ⟨_, List.getElem?_eq_getElem (by rw [HM1.out]; exact hlk)⟩
                        obtain ⟨y, hy⟩ : ∃ y, u.ls[k]? = some y := ⟨_, List.getElem?_eq_getElem (by rw [HM2.out]; exact hlk)⟩
                        have HBA := Aside0.mk (below_then HB2.out HB2.out.size HBR.out)
                        obtain ⟨A', c', hcs, hin⟩ := (TmIn.stay HIN.out HBA.out).ls.kid k x hx
                        obtain ⟨B', d', hct, hin2⟩ := (TmIn.stay HIN2.out HBA.out).ls.kid k y hy
                        obtain ⟨⟨ga, oa, sa⟩, hpB, hga, rfl, d1, d2, d3⟩ := hcs
                        obtain ⟨⟨gd, od, sd⟩, hqB, hgd, rfl, f1, f2, f3⟩ := hct
                        rw [add_flat] at d1 d2 d3 f1 f2 f3
                        have HDX := Aside0.mk (drop_lv hx)
                        have HDY := Aside0.mk (drop_lv hy)
                        have HXI := Aside0.mk hin.all
                        have HYI := Aside0.mk hin2.all
                        obtain ⟨r, hr⟩ : ∃ r, eqP x y = r := ⟨_, rfl⟩
                        have HR := Aside0.mk hr
                        have HXR := Aside0.mk ((HBR.out.block _ (blk_lt HX2.out)).trans HX2.out)
                        have HYR := Aside0.mk ((HBR.out.block _ (blk_lt HY2.out)).trans HY2.out)
                        have hzr := HBA.out.size
                        have hga : ga < w.heap.size := hga
                        have hgd : gd < w.heap.size := hgd
                        go_upto_region 16 with (fail)
                        refine srl_region wr w.heap.size (w.heap.size + 1) k p q t u ga oa gd od M x.kind x.num y.kind y.num A' B' x.kids.length c' y.kids.length d' r HXR.out HYR.out hpB hqB HM1.out HM2.out (by omega) (by omega) hlk (by omega)
                          d1 d2 d3 f1 f2 f3 (fun w9 hb9 => by rw [← hr]; exact refEqual_at A' B' c' d' _ _ _ _ _ _ x y w9 rfl rfl rfl rfl rfl rfl (LvIn.stay HXI.out hb9).all (LvIn.stay HYI.out hb9).all) ?_
                        intro w5 hch
                        have HB5 := Aside0.mk (below_then HBR.out HBR.out.size (hch.below (fun _ h => h.elim False.elim False.elim) (Nat.le_refl _)))
                        clear hch d1 d2 d3 f1 f2 f3 hpB hqB hga hgd hin hin2 hx hy hr
                        cases r with
                        | true =>
                          have HK2 := Aside0.mk (show lvsEq (t.ls.drop (k + 1)) (u.ls.drop (k + 1)) = lvsEq t.ls u.ls by rw [← HK.out, HDX.out, HDY.out, lvsEq_cons, HR.out, Bool.true_and])
                          go_wp2
                          go_roundw
                          case rel => exact ⟨k + 1, by go_num, by omega, HK2, HB5⟩
                          case measure => (simp [intOf]; try omega)
                        | false =>
                          have HK2 := Aside0.mk (show sameT t u = false by rw [HE2.out, ← HK.out, HDX.out, HDY.out, lvsEq_cons, HR.out, Bool.false_and])
                          have HFN := Aside0.mk (below_then HB2.out HB2.out.size HB5.out)
                          go_wp2
                          go_ret
                          rw [HK2.out]
                          exact ⟨rfl, HFN.out⟩
                      · obtain rfl : k = M := by omega
                        have hlt' : decide ((k : Int) < k) = false := by simp
                        have HZ := Aside0.mk (show sameT t u = true by rw [HE2.out, ← HK.out, List.drop_of_length_le (by rw [HM1.out]; exact Nat.le_refl _), List.drop_of_length_le (by rw [HM2.out]; exact Nat.le_refl _)]; rfl)
                        have HFN := Aside0.mk (below_then HB2.out HB2.out.size HBR.out)
                        go_wp2
                        go_ret
                        rw [HZ.out]
                        exact ⟨rfl, HFN.out⟩
                  · have bm : ((M : Int) != (M2 : Int)) = true := by simp; omega
                    have HE3 := Aside0.mk (show sameT t u = false by rw [HE2.out]; exact lvsEq_len (by rw [HM1.out, hM2]; exact hmm))
                    clear hmm hM2
                    go_wp2
                    go_ret
                    rw [HE3.out]
                    exact ⟨rfl, HB2.out⟩
              · have b7 : (t.kind == 7) = false := by simp [k7]
                have HKN := Aside0.mk (And.intro (leafR_not HLA.out k1 k2 k7) (leafR_not HLB.out (by rw [← HKK.out]; exact k1) (by rw [← HKK.out]; exact k2) (by rw [← HKK.out]; exact k7)))
                clear k1 k2 k7
                have HE := Aside0.mk (sm_node HKK.out HKN.out.1 HKN.out.2)
                have HLA := Aside0.mk HKN.out.1
                have HLB := Aside0.mk HKN.out.2
                obtain ⟨ar, har⟩ : ∃ x, nK t = x := ⟨_, rfl⟩
                have HAR := Aside0.mk har
                have hnk := nK_ar (leaf_nK' HKN.out.1)
                have HAC := Aside0.mk (show ∀ w, Calls Try.prog 39 #[.int .i64 t.kind] w fun e w' => e = .returned (.int .i64 (ar : Int)) ∧ w' = w from fun w => by rw [← har, hnk]; exact refkids_calls _ _)
                have har3 : ar ≤ 3 := by rw [← har]; exact nK_le3 t
                have hart : ar ≤ t.kids.length := by rw [← har]; exact nK_le t
                have haru : ar ≤ u.kids.length := by rw [← har, nK_same HKK.out HKN.out.1 HKN.out.2]; exact nK_le u
                clear har hnk p1 p2 p3 p4 p5 p6 p7 q0 q1 q2 q3 q4 q5 q6 q7
                go_wp2_with (go_at_call 39; go_must (refine (HAC.out _).mono ?_; rintro e w3 ⟨rfl, h3⟩; have h3 := h3.symm; subst h3))
                clear p0
                go_loopw [75] (fun i wr => ∃ k : Nat, i = .int .i64 k ∧ k ≤ ar ∧ Aside0 (alls t u ((List.finRange (nK t)).drop k) = sameT t u) ∧ Aside0 (Below w2.heap.size w2 wr)) (fun i _ => ar - (intOf i).toNat)
                case atStart => exact ⟨0, rfl, Nat.zero_le _, ⟨by rw [List.drop_zero]; exact HE.out.symm⟩, ⟨Below.refl _ _⟩⟩
                case round =>
                  obtain ⟨k, rfl, hk, HK, HBR⟩ := hrel
                  by_cases hlk : k < ar
                  · have hkn : k < nK t := by rw [HAR.out]; exact hlk
                    have hkm : k < nK u := by rw [← nK_same HKK.out HLA.out HLB.out]; exact hkn
                    have HDF := Aside0.mk (drop_fin hkn)
                    have HBA := Aside0.mk (below_then HB2.out HB2.out.size HBR.out)
                    obtain ⟨qq, hqq⟩ := (TmIn.stay HIN.out HBA.out).kid
                    obtain ⟨qr, hqr⟩ := (TmIn.stay HIN2.out HBA.out).kid
                    obtain ⟨⟨ga, oa, hpK, hga, hca⟩, hxin⟩ := hqq k _ (kidF_get t ⟨k, hkn⟩)
                    obtain ⟨⟨gd, od, hqK, hgd, hcb⟩, hyin⟩ := hqr k _ (kidF_get u ⟨k, hkm⟩)
                    have HGD := Aside0.mk (show u.kids.getD k default = kidF u ⟨k, hkm⟩ by rw [List.getD_eq_getElem?_getD, kidF_get u ⟨k, hkm⟩]; rfl)
                    have HAL := Aside0.mk (alls_cons t u ⟨k, hkn⟩ ((List.finRange (nK t)).drop (k + 1)))
                    have HXL := Aside0.mk (kidF_lt t ⟨k, hkn⟩)
                    obtain ⟨x, hxe⟩ : ∃ x, kidF t ⟨k, hkn⟩ = x := ⟨_, rfl⟩
                    obtain ⟨y, hye⟩ : ∃ y, kidF u ⟨k, hkm⟩ = y := ⟨_, rfl⟩
                    rw [hxe] at hca hxin HAL HXL
                    rw [hye] at hcb hyin HGD
                    rw [HGD.out] at HAL
                    have HXI := Aside0.mk (TmS.all hxin)
                    have HYI := Aside0.mk (TmS.all hyin)
                    have HXR := Aside0.mk ((HBR.out.block _ (blk_lt HX2.out)).trans HX2.out)
                    have HYR := Aside0.mk ((HBR.out.block _ (blk_lt HY2.out)).trans HY2.out)
                    obtain ⟨r, hr⟩ : ∃ r, sameT x y = r := ⟨_, rfl⟩
                    have HR := Aside0.mk hr
                    have hzr := HBA.out.size
                    have ca := fun (j : Nat) (v : Value) (h : (tmC (qq k) x)[j]? = some v) => hca j v h
                    have cb := fun (j : Nat) (v : Value) (h : (tmC (qr k) y)[j]? = some v) => hcb j v h
                    go_upto_region 23 with (fail)
                    refine srk_region wr w.heap.size (w.heap.size + 1) k p q t u ga oa gd od t.kids.length u.kids.length (qq k) (qr k) x y r HXR.out HYR.out hpK hqK rfl rfl (by omega) (by omega) (by omega) (by omega) hlt9 hlu9 (by omega)
                      (ca 0 _ rfl) (ca 1 _ rfl) (ca 2 _ rfl) (ca 3 _ rfl) (ca 4 _ rfl) (ca 5 _ rfl) (ca 6 _ rfl) (ca 7 _ rfl) (cb 0 _ rfl) (cb 1 _ rfl) (cb 2 _ rfl) (cb 3 _ rfl) (cb 4 _ rfl) (cb 5 _ rfl) (cb 6 _ rfl) (cb 7 _ rfl)
                      (fun w9 hb9 => by rw [← hr]; exact IH.out x (by have := HXL.out; have := HNN.out; omega) y (qq k) (qr k) w9 (below_all HXI.out hb9) (below_all HYI.out hb9)) ?_
                    intro w5 hch
                    have HB5 := Aside0.mk (below_then HBR.out HBR.out.size (hch.below (fun _ h => h.elim False.elim False.elim) (Nat.le_refl _)))
                    clear hch hca hcb hxin hyin hpK hqK hga hgd hqq hqr hxe hye ca cb hr
                    cases r with
                    | true =>
                      have HK2 := Aside0.mk (show alls t u ((List.finRange (nK t)).drop (k + 1)) = sameT t u by rw [← HK.out, HDF.out, HAL.out, HR.out, Bool.true_and])
                      go_wp2
                      go_roundw
                      case rel => exact ⟨k + 1, by go_num, by omega, HK2, HB5⟩
                      case measure => (simp [intOf]; try omega)
                    | false =>
                      have HK2 := Aside0.mk (show sameT t u = false by rw [← HK.out, HDF.out, HAL.out, HR.out, Bool.false_and])
                      have HFN := Aside0.mk (below_then HB2.out HB2.out.size HB5.out)
                      go_wp2
                      go_ret
                      rw [HK2.out]
                      exact ⟨rfl, HFN.out⟩
                  · obtain rfl : k = ar := by omega
                    have hlt' : decide ((k : Int) < k) = false := by simp
                    have HZ := Aside0.mk (show sameT t u = true by rw [← HK.out, List.drop_of_length_le (by rw [List.length_finRange, HAR.out]; exact Nat.le_refl _)]; rfl)
                    have HFN := Aside0.mk (below_then HB2.out HB2.out.size HBR.out)
                    go_wp2
                    go_ret
                    rw [HZ.out]
                    exact ⟨rfl, HFN.out⟩
      · refine sry_region W w.heap.size (w.heap.size + 1) p q t u la lb true HX.out HY.out hkk hla hlb (by simp [hll]) hlt9 hlu9 ?_
        intro w1 hch
        have hb1 : Below W.heap.size W w1 := hch.below (fun _ h => h.elim False.elim False.elim) (Nat.le_refl _)
        have HB1 := Aside0.mk (below_then HB.out HB.out.size hb1)
        have HX1 := Aside0.mk ((hb1.block _ (blk_lt HX.out)).trans HX.out)
        have HY1 := Aside0.mk ((hb1.block _ (blk_lt HY.out)).trans HY.out)
        have HKK := Aside0.mk hkk
        have HLA := Aside0.mk hla
        have HLB := Aside0.mk hlb
        clear hch hb1 hkk hla hlb HX HY
        have HE := Aside0.mk (sm_leafR (t := t) (u := u) (by rw [HLA.out, HLB.out]; exact hll))
        clear hll
        go_wp2
        go_ret
        rw [HE.out]
        exact ⟨rfl, HB1.out⟩
    · refine srn_region W w.heap.size (w.heap.size + 1) p q t u HX.out HY.out hkk ?_
      intro w1 hch
      have HB1 := Aside0.mk (below_then HB.out HB.out.size (hch.below (fun _ h => h.elim False.elim False.elim) (Nat.le_refl _)))
      have HE := Aside0.mk (sm_kind hkk)
      clear hch hkk
      go_wp2
      go_ret
      rw [HE.out]
      exact ⟨rfl, HB1.out⟩
set_option maxRecDepth 100000 in
set_option maxHeartbeats 4000000 in
theorem rSame_calls (t u : Tm) (p q : Pl) (w : World) (hin : TmIn w w.heap.size p t) (hin2 : TmIn w w.heap.size q u) :
    Calls Try.prog 49 #[tmV p t, tmV q u] w fun e w' => e = .returned (.bool (SameT t u)) ∧ Below w.heap.size w w' := by
  have HIN := Aside0.mk hin
  have HIN2 := Aside0.mk hin2
  obtain ⟨W, hW⟩ : ∃ W, W = (w.alloc (tmO p t)).alloc (tmO q u) := ⟨_, rfl⟩
  have hb : Below w.heap.size w W := by rw [hW]; exact below_alloc (below_alloc (Below.refl _ _) _) _
  have HX := Aside0.mk (show W.heap[w.heap.size]? = some (tmO p t) by rw [hW]; exact box0 w _ _)
  have HY := Aside0.mk (show W.heap[w.heap.size + 1]? = some (tmO q u) by rw [hW]; exact box1 w _ _)
  have HB := Aside0.mk hb
  clear hin hin2 hb
  unfold tmV
  unfold tmO at hW
  go_enter Try.func49, Try.ntmps49
  go_upto_region 1 with (fail)
  rw [← hW]
  clear hW
  by_cases h1 : okT t
  · have HG1 := Aside0.mk (show (!decide (okT t)) = false by simp [h1])
    by_cases h2 : okT u
    · have HG2 := Aside0.mk (show (!decide (okT u)) = false by simp [h2])
      have HE := Aside0.mk (show SameT t u = sameT t u by unfold SameT; rw [decide_eq_true h1, decide_eq_true h2]; rfl)
      clear h1 h2
      go_wp2_with (first
        | (refine wpList_load_row rfl 28 _ rfl (w.heap.size) rfl 28 _ (0, 0) _ HX.out Try.underlying28 rfl (by kernel_rfl) ?_)
        | (go_at_call 86; go_must (refine (rsame_calls _ t (Nat.lt_succ_self _) u p q w2 (below_all HIN.out HB2.out) (below_all HIN2.out HB2.out)).mono ?_; rintro e w3 ⟨rfl, hb⟩; have HB3 := Aside0.mk (below_then HB2.out HB2.out.size hb); clear hb))
        | (have hgd := HB1; clear hgd; go_at_call 26; go_must (refine (tooGreat_calls u q w1 (below_all HIN2.out HB1.out)).mono ?_; rintro e w2 ⟨rfl, hb⟩; rw [HG2.out]; have HB2 := Aside0.mk (below_then HB1.out HB1.out.size hb); have HX2 := Aside0.mk ((hb.block _ (blk_lt HX1.out)).trans HX1.out); have HY2 := Aside0.mk ((hb.block _ (blk_lt HY1.out)).trans HY1.out); obtain ⟨a0, a1, a2, a3, a4, a5, a6, a7⟩ := row8 HX2.out; obtain ⟨z0, z1, z2, z3, z4, z5, z6, z7⟩ := row8 HY2.out; clear hb))
        | (go_at_call 26; go_must (refine (tooGreat_calls t p W (below_all HIN.out HB.out)).mono ?_; rintro e w1 ⟨rfl, hb⟩; rw [HG1.out]; have HB1 := Aside0.mk (below_then HB.out HB.out.size hb); have HX1 := Aside0.mk ((hb.block _ (blk_lt HX.out)).trans HX.out); have HY1 := Aside0.mk ((hb.block _ (blk_lt HY.out)).trans HY.out); obtain ⟨y0, y1, y2, y3, y4, y5, y6, y7⟩ := row8 HY1.out; clear hb)))
      go_ret
      rw [HE.out]
      exact ⟨rfl, HB3.out⟩
    · have HG2 := Aside0.mk (show (!decide (okT u)) = true by simp [h2])
      have HE := Aside0.mk (show SameT t u = false by unfold SameT; rw [decide_eq_true h1, decide_eq_false h2]; rfl)
      clear h1 h2
      go_wp2_with (first
        | (refine wpList_load_row rfl 28 _ rfl (w.heap.size) rfl 28 _ (0, 0) _ HX.out Try.underlying28 rfl (by kernel_rfl) ?_)
        | (have hgd := HB1; clear hgd; go_at_call 26; go_must (refine (tooGreat_calls u q w1 (below_all HIN2.out HB1.out)).mono ?_; rintro e w2 ⟨rfl, hb⟩; rw [HG2.out]; have HB2 := Aside0.mk (below_then HB1.out HB1.out.size hb); have HX2 := Aside0.mk ((hb.block _ (blk_lt HX1.out)).trans HX1.out); have HY2 := Aside0.mk ((hb.block _ (blk_lt HY1.out)).trans HY1.out); obtain ⟨a0, a1, a2, a3, a4, a5, a6, a7⟩ := row8 HX2.out; obtain ⟨z0, z1, z2, z3, z4, z5, z6, z7⟩ := row8 HY2.out; clear hb))
        | (go_at_call 26; go_must (refine (tooGreat_calls t p W (below_all HIN.out HB.out)).mono ?_; rintro e w1 ⟨rfl, hb⟩; rw [HG1.out]; have HB1 := Aside0.mk (below_then HB.out HB.out.size hb); have HX1 := Aside0.mk ((hb.block _ (blk_lt HX.out)).trans HX.out); have HY1 := Aside0.mk ((hb.block _ (blk_lt HY.out)).trans HY.out); obtain ⟨y0, y1, y2, y3, y4, y5, y6, y7⟩ := row8 HY1.out; clear hb)))
      go_ret
      rw [HE.out]
      exact ⟨rfl, HB2.out⟩
  · have HG1 := Aside0.mk (show (!decide (okT t)) = true by simp [h1])
    have HE := Aside0.mk (show SameT t u = false by unfold SameT; rw [decide_eq_false h1]; rfl)
    clear h1
    go_wp2_with (first
      | (refine wpList_load_row rfl 28 _ rfl (w.heap.size) rfl 28 _ (0, 0) _ HX.out Try.underlying28 rfl (by kernel_rfl) ?_)
      | (go_at_call 26; go_must (refine (tooGreat_calls t p W (below_all HIN.out HB.out)).mono ?_; rintro e w1 ⟨rfl, hb⟩; rw [HG1.out]; have HB1 := Aside0.mk (below_then HB.out HB.out.size hb); have HX1 := Aside0.mk ((hb.block _ (blk_lt HX.out)).trans HX.out); have HY1 := Aside0.mk ((hb.block _ (blk_lt HY.out)).trans HY.out); obtain ⟨y0, y1, y2, y3, y4, y5, y6, y7⟩ := row8 HY1.out; clear hb)))
    go_ret
    rw [HE.out]
    exact ⟨rfl, HB1.out⟩
end Go.Proofs.Ytdboloabpjmgaaa

/-! TSmR -/
namespace Go.Proofs.Ytdboloabpjmgaaa
open Go.RowKit Go.Proofs.YtdboloabpjmgaaaW.PrintWords Go.RegionInvYtdboloabpjmgaaa Go.RegionEYtdboloabpjmgaaa
set_option linter.unusedVariables false

def ts_ops : List Oper := [
  { dst := some 5, op := Go.Op.load 28 (Go.Operand.tmp 2), type := 28, pos := "law.go:104", after := #[], guard := none },
  { dst := some 6, op := Go.Op.load 28 (Go.Operand.tmp 3), type := 28, pos := "law.go:104", after := #[], guard := none },
  { dst := some 7, op := Go.Op.call { callee := Go.Callee.value (Go.Operand.func 48), args := #[Go.Operand.tmp 5, Go.Operand.tmp 6], argTypes := #[28, 28] }, type := 4, pos := "law.go:104", after := #[{ on := 0, ground := Go.Ground.data }, { on := 1, ground := Go.Ground.data }], guard := none },
  { dst := some 8, op := Go.Op.load 28 (Go.Operand.tmp 2), type := 28, pos := "law.go:104", after := #[], guard := none },
  { dst := some 9, op := Go.Op.load 28 (Go.Operand.tmp 3), type := 28, pos := "law.go:104", after := #[], guard := none },
  { dst := some 10, op := Go.Op.call { callee := Go.Callee.value (Go.Operand.func 49), args := #[Go.Operand.tmp 8, Go.Operand.tmp 9], argTypes := #[28, 28] }, type := 4, pos := "law.go:104", after := #[{ on := 3, ground := Go.Ground.data }, { on := 4, ground := Go.Ground.data }, { on := 2, ground := Go.Ground.chain }], guard := none },
  { dst := some 11, op := Go.Op.binOp Go.BinOp.eql 4 (Go.Operand.tmp 7) (Go.Operand.tmp 10) 4, type := 4, pos := "law.go:104", after := #[{ on := 2, ground := Go.Ground.data }, { on := 5, ground := Go.Ground.data }], guard := none },
  { dst := some 12, op := Go.Op.move (Go.Operand.tmp 11), type := 4, pos := "law.go:104", after := #[{ on := 6, ground := Go.Ground.data }, { on := 5, ground := Go.Ground.chain }], guard := none },
  { dst := some 13, op := Go.Op.load 28 (Go.Operand.tmp 2), type := 28, pos := "law.go:104", after := #[{ on := 7, ground := Go.Ground.guard }], guard := some (7, true) },
  { dst := some 14, op := Go.Op.load 28 (Go.Operand.tmp 2), type := 28, pos := "law.go:104", after := #[{ on := 7, ground := Go.Ground.guard }], guard := some (7, true) },
  { dst := some 15, op := Go.Op.call { callee := Go.Callee.value (Go.Operand.func 48), args := #[Go.Operand.tmp 13, Go.Operand.tmp 14], argTypes := #[28, 28] }, type := 4, pos := "law.go:104", after := #[{ on := 8, ground := Go.Ground.data }, { on := 9, ground := Go.Ground.data }, { on := 7, ground := Go.Ground.chain }, { on := 7, ground := Go.Ground.guard }], guard := some (7, true) },
  { dst := some 16, op := Go.Op.load 28 (Go.Operand.tmp 2), type := 28, pos := "law.go:104", after := #[{ on := 7, ground := Go.Ground.guard }], guard := some (7, true) },
  { dst := some 17, op := Go.Op.load 28 (Go.Operand.tmp 2), type := 28, pos := "law.go:104", after := #[{ on := 7, ground := Go.Ground.guard }], guard := some (7, true) },
  { dst := some 18, op := Go.Op.call { callee := Go.Callee.value (Go.Operand.func 49), args := #[Go.Operand.tmp 16, Go.Operand.tmp 17], argTypes := #[28, 28] }, type := 4, pos := "law.go:104", after := #[{ on := 11, ground := Go.Ground.data }, { on := 12, ground := Go.Ground.data }, { on := 10, ground := Go.Ground.chain }, { on := 7, ground := Go.Ground.guard }], guard := some (7, true) },
  { dst := some 19, op := Go.Op.binOp Go.BinOp.eql 4 (Go.Operand.tmp 15) (Go.Operand.tmp 18) 4, type := 4, pos := "law.go:104", after := #[{ on := 10, ground := Go.Ground.data }, { on := 13, ground := Go.Ground.data }, { on := 7, ground := Go.Ground.guard }], guard := some (7, true) },
  { dst := some 20, op := Go.Op.pick (Go.Operand.tmp 12) (Go.Operand.tmp 19) (Go.Operand.const (Go.Value.bool false)), type := 4, pos := "law.go:104", after := #[{ on := 7, ground := Go.Ground.data }, { on := 14, ground := Go.Ground.data }], guard := none },
  { dst := some 21, op := Go.Op.move (Go.Operand.tmp 20), type := 4, pos := "law.go:104", after := #[{ on := 15, ground := Go.Ground.data }, { on := 13, ground := Go.Ground.chain }], guard := none },
  { dst := some 22, op := Go.Op.call { callee := Go.Callee.value (Go.Operand.func 25), args := #[], argTypes := #[] }, type := 4, pos := "law.go:104", after := #[{ on := 16, ground := Go.Ground.chain }, { on := 16, ground := Go.Ground.guard }], guard := some (16, true) },
  { dst := some 23, op := Go.Op.pick (Go.Operand.tmp 21) (Go.Operand.tmp 22) (Go.Operand.const (Go.Value.bool false)), type := 4, pos := "law.go:104", after := #[{ on := 16, ground := Go.Ground.data }, { on := 17, ground := Go.Ground.data }], guard := none },
  { dst := some 4, op := Go.Op.assign (Go.Operand.tmp 23), type := 4, pos := "law.go:104", after := #[{ on := 18, ground := Go.Ground.data }, { on := 17, ground := Go.Ground.chain }, { on := 0, ground := Go.Ground.phase }, { on := 1, ground := Go.Ground.phase }, { on := 2, ground := Go.Ground.phase }, { on := 3, ground := Go.Ground.phase }, { on := 4, ground := Go.Ground.phase }, { on := 5, ground := Go.Ground.phase }, { on := 6, ground := Go.Ground.phase }, { on := 7, ground := Go.Ground.phase }, { on := 8, ground := Go.Ground.phase }, { on := 9, ground := Go.Ground.phase }, { on := 10, ground := Go.Ground.phase }, { on := 11, ground := Go.Ground.phase }, { on := 12, ground := Go.Ground.phase }, { on := 13, ground := Go.Ground.phase }, { on := 14, ground := Go.Ground.phase }, { on := 15, ground := Go.Ground.phase }, { on := 16, ground := Go.Ground.phase }, { on := 17, ground := Go.Ground.phase }, { on := 18, ground := Go.Ground.phase }], guard := none }]
def ts_F (w0 : World) (B : Nat) (ga : Nat) (pa : Pl) (ta : Tm) (gb : Nat) (pb : Pl) (tb : Tm) (r s : Bool) : Nat → (Nat → Value) → Value → World → (Nat → Prop) → Prop := fun rix => match rix with
  | 0 => fun _ v _ _ => v = tmV pa ta
  | 1 => fun _ v _ _ => v = tmV pb tb
  | 2 => fun _ v _ _ => v = .bool r
  | 3 => fun _ v _ _ => v = tmV pa ta
  | 4 => fun _ v _ _ => v = tmV pb tb
  | 5 => fun _ v _ _ => v = .bool r
  | 6 => fun _ v _ _ => v = .bool true
  | 7 => fun _ v _ _ => v = .bool true
  | 8 => fun _ v _ _ => v = tmV pa ta
  | 9 => fun _ v _ _ => v = tmV pa ta
  | 10 => fun _ v _ _ => v = .bool s
  | 11 => fun _ v _ _ => v = tmV pa ta
  | 12 => fun _ v _ _ => v = tmV pa ta
  | 13 => fun _ v _ _ => v = .bool s
  | 14 => fun _ v _ _ => v = .bool true
  | 15 => fun _ v _ _ => v = .bool true
  | 16 => fun _ v _ _ => v = .bool true
  | 17 => fun _ v _ _ => v = .bool true
  | 18 => fun _ v _ _ => v = .bool true
  | 19 => fun _ v _ _ => v = .bool true
  | _ => fun _ _ _ _ => True
def ts_C : Nat → List Nat := fun rix => match rix with
  | _ => []
theorem ts_nw2 : nwB ts_ops.toArray 2 = true := by kernel_rfl
theorem ts_nw3 : nwB ts_ops.toArray 3 = true := by kernel_rfl
set_option maxRecDepth 100000 in
set_option maxHeartbeats 8000000 in
theorem ts_obs (w0 : World) (B : Nat) (ga : Nat) (pa : Pl) (ta : Tm) (gb : Nat) (pb : Pl) (tb : Tm) (r s : Bool) (hB : B ≤ w0.heap.size) (hx2 : w0.heap[ga]? = some (tmO pa ta)) (hin2 : TmIn w0 B pa ta) (hx3 : w0.heap[gb]? = some (tmO pb tb)) (hin3 : TmIn w0 B pb tb) (h1 : SameT ta tb = r) (h2 : SameT ta ta = s) (Q : Exit → Act → World → Prop) (a0 : Act) (hi2 : a0.tmps.getD 2 undef = .pointer (some ⟨ga, 0, none⟩)) (hi3 : a0.tmps.getD 3 undef = .pointer (some ⟨gb, 0, none⟩)) :
    ObsE Try.prog ts_ops.toArray Q (est2 0 0 (fun _ => False) (fun _ => False)) ts_C (ts_F w0 B ga pa ta gb pb tb r s) a0 w0 ts_ops.toArray.toList 0 := by
  have nw2 := ts_nw2
  have nw3 := ts_nw3
  refine ⟨?_, ?_, ?_, ?_, ?_, ?_, ?_, ?_, ?_, ?_, ?_, ?_, ?_, ?_, ?_, ?_, ?_, ?_, ?_, ?_, trivial⟩
  · refine ⟨⟨fun τ => stableE_det _, leans_not⟩, ?_⟩
    intro a w O hk
    have e2 : a.eval (.tmp 2) = .pointer (some ⟨ga, 0, none⟩) := (hk.init 2 (initialB_of_nw nw2)).trans hi2
    have x2 := hk.world.still hx2 (fun ⟨_, h⟩ => h.elim And.right And.right)
    have x3 := hk.world.still hx3 (fun ⟨_, h⟩ => h.elim And.right And.right)
    have hfx : ∀ k, k < B → w.heap[k]? = w0.heap[k]? := fun k hk' => hk.fix k ((fun k hk' => est2_fix (Nat.lt_of_lt_of_le hk' hB) (fun e => e.elim) (fun e => e.elim)) k hk')
    have hsz := hk.world.size
    have y2 := hin2.same (w' := w) (fun k hk' _ => hfx k hk')
    have y3 := hin3.same (w' := w) (fun k hk' _ => hfx k hk')
    exact obE_loadRow rfl e2 x2 Try.underlying28 rfl (by kernel_rfl) (wanted_none rfl) rfl
  · refine ⟨⟨fun τ => stableE_det _, leans_not⟩, ?_⟩
    intro a w O hk
    have e3 : a.eval (.tmp 3) = .pointer (some ⟨gb, 0, none⟩) := (hk.init 3 (initialB_of_nw nw3)).trans hi3
    have x2 := hk.world.still hx2 (fun ⟨_, h⟩ => h.elim And.right And.right)
    have x3 := hk.world.still hx3 (fun ⟨_, h⟩ => h.elim And.right And.right)
    have hfx : ∀ k, k < B → w.heap[k]? = w0.heap[k]? := fun k hk' => hk.fix k ((fun k hk' => est2_fix (Nat.lt_of_lt_of_le hk' hB) (fun e => e.elim) (fun e => e.elim)) k hk')
    have hsz := hk.world.size
    have y2 := hin2.same (w' := w) (fun k hk' _ => hfx k hk')
    have y3 := hin3.same (w' := w) (fun k hk' _ => hfx k hk')
    exact obE_loadRow rfl e3 x3 Try.underlying28 rfl (by kernel_rfl) (wanted_none rfl) rfl
  · refine ⟨⟨fun τ => stableE_det _, leans_not⟩, ?_⟩
    intro a w O hk
    have e5 : a.eval (.tmp 5) = tmV pa ta := hk.fact 0 _ 5 rfl rfl rfl rfl
    have e6 : a.eval (.tmp 6) = tmV pb tb := hk.fact 1 _ 6 rfl rfl rfl rfl
    have x2 := hk.world.still hx2 (fun ⟨_, h⟩ => h.elim And.right And.right)
    have x3 := hk.world.still hx3 (fun ⟨_, h⟩ => h.elim And.right And.right)
    have hfx : ∀ k, k < B → w.heap[k]? = w0.heap[k]? := fun k hk' => hk.fix k ((fun k hk' => est2_fix (Nat.lt_of_lt_of_le hk' hB) (fun e => e.elim) (fun e => e.elim)) k hk')
    have hsz := hk.world.size
    have y2 := hin2.same (w' := w) (fun k hk' _ => hfx k hk')
    have y3 := hin3.same (w' := w) (fun k hk' _ => hfx k hk')
    exact obE_callV #[tmV pa ta, tmV pb tb] rfl rfl rfl rfl (by simp only [List.map_cons, List.map_nil]; rw [e5, e6]; try rfl) (wanted_none rfl) ((tSame_calls ta tb pa pb w (TmIn.mono y2 (Nat.le_trans hB hsz)) (TmIn.mono y3 (Nat.le_trans hB hsz))).mono fun e w' h => ⟨by rw [h.1, h1], h.2⟩)
  · refine ⟨⟨fun τ => stableE_det _, leans_not⟩, ?_⟩
    intro a w O hk
    have e2 : a.eval (.tmp 2) = .pointer (some ⟨ga, 0, none⟩) := (hk.init 2 (initialB_of_nw nw2)).trans hi2
    have x2 := hk.world.still hx2 (fun ⟨_, h⟩ => h.elim And.right And.right)
    have x3 := hk.world.still hx3 (fun ⟨_, h⟩ => h.elim And.right And.right)
    have hfx : ∀ k, k < B → w.heap[k]? = w0.heap[k]? := fun k hk' => hk.fix k ((fun k hk' => est2_fix (Nat.lt_of_lt_of_le hk' hB) (fun e => e.elim) (fun e => e.elim)) k hk')
    have hsz := hk.world.size
    have y2 := hin2.same (w' := w) (fun k hk' _ => hfx k hk')
    have y3 := hin3.same (w' := w) (fun k hk' _ => hfx k hk')
    exact obE_loadRow rfl e2 x2 Try.underlying28 rfl (by kernel_rfl) (wanted_none rfl) rfl
  · refine ⟨⟨fun τ => stableE_det _, leans_not⟩, ?_⟩
    intro a w O hk
    have e3 : a.eval (.tmp 3) = .pointer (some ⟨gb, 0, none⟩) := (hk.init 3 (initialB_of_nw nw3)).trans hi3
    have x2 := hk.world.still hx2 (fun ⟨_, h⟩ => h.elim And.right And.right)
    have x3 := hk.world.still hx3 (fun ⟨_, h⟩ => h.elim And.right And.right)
    have hfx : ∀ k, k < B → w.heap[k]? = w0.heap[k]? := fun k hk' => hk.fix k ((fun k hk' => est2_fix (Nat.lt_of_lt_of_le hk' hB) (fun e => e.elim) (fun e => e.elim)) k hk')
    have hsz := hk.world.size
    have y2 := hin2.same (w' := w) (fun k hk' _ => hfx k hk')
    have y3 := hin3.same (w' := w) (fun k hk' _ => hfx k hk')
    exact obE_loadRow rfl e3 x3 Try.underlying28 rfl (by kernel_rfl) (wanted_none rfl) rfl
  · refine ⟨⟨fun τ => stableE_det _, leans_not⟩, ?_⟩
    intro a w O hk
    have e8 : a.eval (.tmp 8) = tmV pa ta := hk.fact 3 _ 8 rfl rfl rfl rfl
    have e9 : a.eval (.tmp 9) = tmV pb tb := hk.fact 4 _ 9 rfl rfl rfl rfl
    have x2 := hk.world.still hx2 (fun ⟨_, h⟩ => h.elim And.right And.right)
    have x3 := hk.world.still hx3 (fun ⟨_, h⟩ => h.elim And.right And.right)
    have hfx : ∀ k, k < B → w.heap[k]? = w0.heap[k]? := fun k hk' => hk.fix k ((fun k hk' => est2_fix (Nat.lt_of_lt_of_le hk' hB) (fun e => e.elim) (fun e => e.elim)) k hk')
    have hsz := hk.world.size
    have y2 := hin2.same (w' := w) (fun k hk' _ => hfx k hk')
    have y3 := hin3.same (w' := w) (fun k hk' _ => hfx k hk')
    exact obE_callV #[tmV pa ta, tmV pb tb] rfl rfl rfl rfl (by simp only [List.map_cons, List.map_nil]; rw [e8, e9]; try rfl) (wanted_none rfl) ((rSame_calls ta tb pa pb w (TmIn.mono y2 (Nat.le_trans hB hsz)) (TmIn.mono y3 (Nat.le_trans hB hsz))).mono fun e w' h => ⟨by rw [h.1, h1], h.2⟩)
  · refine ⟨⟨fun τ => stableE_det _, leans_not⟩, ?_⟩
    intro a w O hk
    have e7 : a.eval (.tmp 7) = .bool r := hk.fact 2 _ 7 rfl rfl rfl rfl
    have e10 : a.eval (.tmp 10) = .bool r := hk.fact 5 _ 10 rfl rfl rfl rfl
    have x2 := hk.world.still hx2 (fun ⟨_, h⟩ => h.elim And.right And.right)
    have x3 := hk.world.still hx3 (fun ⟨_, h⟩ => h.elim And.right And.right)
    have hfx : ∀ k, k < B → w.heap[k]? = w0.heap[k]? := fun k hk' => hk.fix k ((fun k hk' => est2_fix (Nat.lt_of_lt_of_le hk' hB) (fun e => e.elim) (fun e => e.elim)) k hk')
    have hsz := hk.world.size
    have y2 := hin2.same (w' := w) (fun k hk' _ => hfx k hk')
    have y3 := hin3.same (w' := w) (fun k hk' _ => hfx k hk')
    exact toE (ob_eqlBool true rfl e7 e10 Try.underlying4 (by simp) (wanted_none rfl) rfl)
  · refine ⟨⟨fun τ => stableE_det _, leans_not⟩, ?_⟩
    intro a w O hk
    have e11 : a.eval (.tmp 11) = .bool true := hk.fact 6 _ 11 rfl rfl rfl rfl
    exact toE (ob_move rfl e11 (wanted_none rfl) rfl)
  · refine ⟨⟨fun τ => stableE_det _, leans_not⟩, ?_⟩
    intro a w O hk
    have e2 : a.eval (.tmp 2) = .pointer (some ⟨ga, 0, none⟩) := (hk.init 2 (initialB_of_nw nw2)).trans hi2
    have e12 : a.eval (.tmp 12) = .bool true := hk.fact 7 _ 12 rfl rfl rfl rfl
    have x2 := hk.world.still hx2 (fun ⟨_, h⟩ => h.elim And.right And.right)
    have x3 := hk.world.still hx3 (fun ⟨_, h⟩ => h.elim And.right And.right)
    have hfx : ∀ k, k < B → w.heap[k]? = w0.heap[k]? := fun k hk' => hk.fix k ((fun k hk' => est2_fix (Nat.lt_of_lt_of_le hk' hB) (fun e => e.elim) (fun e => e.elim)) k hk')
    have hsz := hk.world.size
    have y2 := hin2.same (w' := w) (fun k hk' _ => hfx k hk')
    have y3 := hin3.same (w' := w) (fun k hk' _ => hfx k hk')
    exact obE_loadRow rfl e2 x2 Try.underlying28 rfl (by kernel_rfl) (wanted_of rfl rfl rfl e12) rfl
  · refine ⟨⟨fun τ => stableE_det _, leans_not⟩, ?_⟩
    intro a w O hk
    have e2 : a.eval (.tmp 2) = .pointer (some ⟨ga, 0, none⟩) := (hk.init 2 (initialB_of_nw nw2)).trans hi2
    have e12 : a.eval (.tmp 12) = .bool true := hk.fact 7 _ 12 rfl rfl rfl rfl
    have x2 := hk.world.still hx2 (fun ⟨_, h⟩ => h.elim And.right And.right)
    have x3 := hk.world.still hx3 (fun ⟨_, h⟩ => h.elim And.right And.right)
    have hfx : ∀ k, k < B → w.heap[k]? = w0.heap[k]? := fun k hk' => hk.fix k ((fun k hk' => est2_fix (Nat.lt_of_lt_of_le hk' hB) (fun e => e.elim) (fun e => e.elim)) k hk')
    have hsz := hk.world.size
    have y2 := hin2.same (w' := w) (fun k hk' _ => hfx k hk')
    have y3 := hin3.same (w' := w) (fun k hk' _ => hfx k hk')
    exact obE_loadRow rfl e2 x2 Try.underlying28 rfl (by kernel_rfl) (wanted_of rfl rfl rfl e12) rfl
  · refine ⟨⟨fun τ => stableE_det _, leans_not⟩, ?_⟩
    intro a w O hk
    have e13 : a.eval (.tmp 13) = tmV pa ta := hk.fact 8 _ 13 rfl rfl rfl rfl
    have e14 : a.eval (.tmp 14) = tmV pa ta := hk.fact 9 _ 14 rfl rfl rfl rfl
    have e12 : a.eval (.tmp 12) = .bool true := hk.fact 7 _ 12 rfl rfl rfl rfl
    have x2 := hk.world.still hx2 (fun ⟨_, h⟩ => h.elim And.right And.right)
    have x3 := hk.world.still hx3 (fun ⟨_, h⟩ => h.elim And.right And.right)
    have hfx : ∀ k, k < B → w.heap[k]? = w0.heap[k]? := fun k hk' => hk.fix k ((fun k hk' => est2_fix (Nat.lt_of_lt_of_le hk' hB) (fun e => e.elim) (fun e => e.elim)) k hk')
    have hsz := hk.world.size
    have y2 := hin2.same (w' := w) (fun k hk' _ => hfx k hk')
    have y3 := hin3.same (w' := w) (fun k hk' _ => hfx k hk')
    exact obE_callV #[tmV pa ta, tmV pa ta] rfl rfl rfl rfl (by simp only [List.map_cons, List.map_nil]; rw [e13, e14]; try rfl) (wanted_of rfl rfl rfl e12) ((tSame_calls ta ta pa pa w (TmIn.mono y2 (Nat.le_trans hB hsz)) (TmIn.mono y2 (Nat.le_trans hB hsz))).mono fun e w' h => ⟨by rw [h.1, h2], h.2⟩)
  · refine ⟨⟨fun τ => stableE_det _, leans_not⟩, ?_⟩
    intro a w O hk
    have e2 : a.eval (.tmp 2) = .pointer (some ⟨ga, 0, none⟩) := (hk.init 2 (initialB_of_nw nw2)).trans hi2
    have e12 : a.eval (.tmp 12) = .bool true := hk.fact 7 _ 12 rfl rfl rfl rfl
    have x2 := hk.world.still hx2 (fun ⟨_, h⟩ => h.elim And.right And.right)
    have x3 := hk.world.still hx3 (fun ⟨_, h⟩ => h.elim And.right And.right)
    have hfx : ∀ k, k < B → w.heap[k]? = w0.heap[k]? := fun k hk' => hk.fix k ((fun k hk' => est2_fix (Nat.lt_of_lt_of_le hk' hB) (fun e => e.elim) (fun e => e.elim)) k hk')
    have hsz := hk.world.size
    have y2 := hin2.same (w' := w) (fun k hk' _ => hfx k hk')
    have y3 := hin3.same (w' := w) (fun k hk' _ => hfx k hk')
    exact obE_loadRow rfl e2 x2 Try.underlying28 rfl (by kernel_rfl) (wanted_of rfl rfl rfl e12) rfl
  · refine ⟨⟨fun τ => stableE_det _, leans_not⟩, ?_⟩
    intro a w O hk
    have e2 : a.eval (.tmp 2) = .pointer (some ⟨ga, 0, none⟩) := (hk.init 2 (initialB_of_nw nw2)).trans hi2
    have e12 : a.eval (.tmp 12) = .bool true := hk.fact 7 _ 12 rfl rfl rfl rfl
    have x2 := hk.world.still hx2 (fun ⟨_, h⟩ => h.elim And.right And.right)
    have x3 := hk.world.still hx3 (fun ⟨_, h⟩ => h.elim And.right And.right)
    have hfx : ∀ k, k < B → w.heap[k]? = w0.heap[k]? := fun k hk' => hk.fix k ((fun k hk' => est2_fix (Nat.lt_of_lt_of_le hk' hB) (fun e => e.elim) (fun e => e.elim)) k hk')
    have hsz := hk.world.size
    have y2 := hin2.same (w' := w) (fun k hk' _ => hfx k hk')
    have y3 := hin3.same (w' := w) (fun k hk' _ => hfx k hk')
    exact obE_loadRow rfl e2 x2 Try.underlying28 rfl (by kernel_rfl) (wanted_of rfl rfl rfl e12) rfl
  · refine ⟨⟨fun τ => stableE_det _, leans_not⟩, ?_⟩
    intro a w O hk
    have e16 : a.eval (.tmp 16) = tmV pa ta := hk.fact 11 _ 16 rfl rfl rfl rfl
    have e17 : a.eval (.tmp 17) = tmV pa ta := hk.fact 12 _ 17 rfl rfl rfl rfl
    have e12 : a.eval (.tmp 12) = .bool true := hk.fact 7 _ 12 rfl rfl rfl rfl
    have x2 := hk.world.still hx2 (fun ⟨_, h⟩ => h.elim And.right And.right)
    have x3 := hk.world.still hx3 (fun ⟨_, h⟩ => h.elim And.right And.right)
    have hfx : ∀ k, k < B → w.heap[k]? = w0.heap[k]? := fun k hk' => hk.fix k ((fun k hk' => est2_fix (Nat.lt_of_lt_of_le hk' hB) (fun e => e.elim) (fun e => e.elim)) k hk')
    have hsz := hk.world.size
    have y2 := hin2.same (w' := w) (fun k hk' _ => hfx k hk')
    have y3 := hin3.same (w' := w) (fun k hk' _ => hfx k hk')
    exact obE_callV #[tmV pa ta, tmV pa ta] rfl rfl rfl rfl (by simp only [List.map_cons, List.map_nil]; rw [e16, e17]; try rfl) (wanted_of rfl rfl rfl e12) ((rSame_calls ta ta pa pa w (TmIn.mono y2 (Nat.le_trans hB hsz)) (TmIn.mono y2 (Nat.le_trans hB hsz))).mono fun e w' h => ⟨by rw [h.1, h2], h.2⟩)
  · refine ⟨⟨fun τ => stableE_det _, leans_not⟩, ?_⟩
    intro a w O hk
    have e15 : a.eval (.tmp 15) = .bool s := hk.fact 10 _ 15 rfl rfl rfl rfl
    have e18 : a.eval (.tmp 18) = .bool s := hk.fact 13 _ 18 rfl rfl rfl rfl
    have e12 : a.eval (.tmp 12) = .bool true := hk.fact 7 _ 12 rfl rfl rfl rfl
    have x2 := hk.world.still hx2 (fun ⟨_, h⟩ => h.elim And.right And.right)
    have x3 := hk.world.still hx3 (fun ⟨_, h⟩ => h.elim And.right And.right)
    have hfx : ∀ k, k < B → w.heap[k]? = w0.heap[k]? := fun k hk' => hk.fix k ((fun k hk' => est2_fix (Nat.lt_of_lt_of_le hk' hB) (fun e => e.elim) (fun e => e.elim)) k hk')
    have hsz := hk.world.size
    have y2 := hin2.same (w' := w) (fun k hk' _ => hfx k hk')
    have y3 := hin3.same (w' := w) (fun k hk' _ => hfx k hk')
    exact toE (ob_eqlBool true rfl e15 e18 Try.underlying4 (by simp) (wanted_of rfl rfl rfl e12) rfl)
  · refine ⟨⟨fun τ => stableE_det _, leans_not⟩, ?_⟩
    intro a w O hk
    have e12 : a.eval (.tmp 12) = .bool true := hk.fact 7 _ 12 rfl rfl rfl rfl
    have e19 : a.eval (.tmp 19) = .bool true := hk.fact 14 _ 19 rfl rfl rfl rfl
    exact toE (ob_pick rfl e12 e19 (wanted_none rfl) rfl)
  · refine ⟨⟨fun τ => stableE_det _, leans_not⟩, ?_⟩
    intro a w O hk
    have e20 : a.eval (.tmp 20) = .bool true := hk.fact 15 _ 20 rfl rfl rfl rfl
    exact toE (ob_move rfl e20 (wanted_none rfl) rfl)
  · refine ⟨⟨fun τ => stableE_det _, leans_not⟩, ?_⟩
    intro a w O hk
    have e21 : a.eval (.tmp 21) = .bool true := hk.fact 16 _ 21 rfl rfl rfl rfl
    have x2 := hk.world.still hx2 (fun ⟨_, h⟩ => h.elim And.right And.right)
    have x3 := hk.world.still hx3 (fun ⟨_, h⟩ => h.elim And.right And.right)
    have hfx : ∀ k, k < B → w.heap[k]? = w0.heap[k]? := fun k hk' => hk.fix k ((fun k hk' => est2_fix (Nat.lt_of_lt_of_le hk' hB) (fun e => e.elim) (fun e => e.elim)) k hk')
    have hsz := hk.world.size
    have y2 := hin2.same (w' := w) (fun k hk' _ => hfx k hk')
    have y3 := hin3.same (w' := w) (fun k hk' _ => hfx k hk')
    exact obE_callV #[] rfl rfl rfl rfl rfl (wanted_of rfl rfl rfl e21) (awake_calls w)
  · refine ⟨⟨fun τ => stableE_det _, leans_not⟩, ?_⟩
    intro a w O hk
    have e21 : a.eval (.tmp 21) = .bool true := hk.fact 16 _ 21 rfl rfl rfl rfl
    have e22 : a.eval (.tmp 22) = .bool true := hk.fact 17 _ 22 rfl rfl rfl rfl
    exact toE (ob_pick rfl e21 e22 (wanted_none rfl) rfl)
  · refine ⟨⟨fun τ => stableE_det _, leans_not⟩, ?_⟩
    intro a w O hk
    have e23 : a.eval (.tmp 23) = .bool true := hk.fact 18 _ 23 rfl rfl rfl rfl
    exact toE (ob_assign rfl e23 (wanted_none rfl) rfl)
set_option maxRecDepth 100000 in
set_option maxHeartbeats 8000000 in
theorem ts_region {Q : Exit → Act → World → Prop} {id : Nat} (w0 : World) (B : Nat) (ga : Nat) (pa : Pl) (ta : Tm) (gb : Nat) (pb : Pl) (tb : Tm) (r s : Bool) {s0 s1 s4 s5 s6 s7 s8 s9 s10 s11 s12 s13 s14 s15 s16 s17 s18 s19 s20 s21 s22 s23 : Value} (hB : B ≤ w0.heap.size) (hx2 : w0.heap[ga]? = some (tmO pa ta)) (hin2 : TmIn w0 B pa ta) (hx3 : w0.heap[gb]? = some (tmO pb tb)) (hin3 : TmIn w0 B pb tb) (h1 : SameT ta tb = r) (h2 : SameT ta ta = s)
    (hend : ∀ (w' : World), Chg (fun k => False ∨ False) w0 w' → Q .normal { tmps := (s0 :: s1 :: (.pointer (some ⟨ga, 0, none⟩)) :: (.pointer (some ⟨gb, 0, none⟩)) :: (.bool true) :: (tmV pa ta) :: (tmV pb tb) :: (.bool r) :: (tmV pa ta) :: (tmV pb tb) :: (.bool r) :: (.bool true) :: (.bool true) :: (tmV pa ta) :: (tmV pa ta) :: (.bool s) :: (tmV pa ta) :: (tmV pa ta) :: (.bool s) :: (.bool true) :: (.bool true) :: (.bool true) :: (.bool true) :: (.bool true) :: [] : List Value).toArray, defers := [] } w') :
    (Code.region id ts_ops.toArray true).wp Try.prog Q { tmps := (s0 :: s1 :: (.pointer (some ⟨ga, 0, none⟩)) :: (.pointer (some ⟨gb, 0, none⟩)) :: s4 :: s5 :: s6 :: s7 :: s8 :: s9 :: s10 :: s11 :: s12 :: s13 :: s14 :: s15 :: s16 :: s17 :: s18 :: s19 :: s20 :: s21 :: s22 :: s23 :: [] : List Value).toArray, defers := [] } w0 := by
  refine wp_region_est (by kernel_rfl) (est2 0 0 (fun _ => False) (fun _ => False)) ts_C (ts_F w0 B ga pa ta gb pb tb r s) (est2_dis (fun _ h _ => h)) (est2_range (fun _ h => h.elim) (fun _ h => h.elim)) (by rfl) (by kernel_rfl) (ts_obs w0.drew B ga pa ta gb pb tb r s hB hx2 (TmS.same hin2 (fun _ _ _ => rfl)) hx3 (TmS.same hin3 (fun _ _ _ => rfl)) h1 h2 _ _ rfl rfl) ?_
  intro a w' O hd hs hb hf hf2 ha hsame
  have hl := slots_eq (ops := ts_ops.toArray) [(4, .bool true), (5, tmV pa ta), (6, tmV pb tb), (7, .bool r), (8, tmV pa ta), (9, tmV pb tb), (10, .bool r), (11, .bool true), (12, .bool true), (13, tmV pa ta), (14, tmV pa ta), (15, .bool s), (16, tmV pa ta), (17, tmV pa ta), (18, .bool s), (19, .bool true), (20, .bool true), (21, .bool true), (22, .bool true), (23, .bool true)] (show a.tmps.size = 24 from hs) (fun i h => hsame i h) ⟨(hf 19 _ 4 rfl rfl (by decide)).1, (hf 0 _ 5 rfl rfl (by decide)).1, (hf 1 _ 6 rfl rfl (by decide)).1, (hf 2 _ 7 rfl rfl (by decide)).1, (hf 3 _ 8 rfl rfl (by decide)).1, (hf 4 _ 9 rfl rfl (by decide)).1, (hf 5 _ 10 rfl rfl (by decide)).1, (hf 6 _ 11 rfl rfl (by decide)).1, (hf 7 _ 12 rfl rfl (by decide)).1, (hf 8 _ 13 rfl rfl (by decide)).1, (hf 9 _ 14 rfl rfl (by decide)).1, (hf 10 _ 15 rfl rfl (by decide)).1, (hf 11 _ 16 rfl rfl (by decide)).1, (hf 12 _ 17 rfl rfl (by decide)).1, (hf 13 _ 18 rfl rfl (by decide)).1, (hf 14 _ 19 rfl rfl (by decide)).1, (hf 15 _ 20 rfl rfl (by decide)).1, (hf 16 _ 21 rfl rfl (by decide)).1, (hf 17 _ 22 rfl rfl (by decide)).1, (hf 18 _ 23 rfl rfl (by decide)).1, trivial⟩ (by kernel_rfl)
  obtain ⟨tmps, defers⟩ := a
  obtain rfl : defers = [] := hd
  have hl' : tmps = _ := hl
  rw [hl']
  have hb' := est2_chg hb
  refine Eq.mp ?_ (hend w' ⟨hb'.os, hb'.tape, hb'.output, hb'.size, hb'.block⟩)
  kernel_rfl

set_option maxRecDepth 100000 in
set_option maxHeartbeats 4000000 in
theorem termSame_calls (a b : Tm) (pa pb : Pl) (w : World) (hina : TmIn w w.heap.size pa a) (hinb : TmIn w w.heap.size pb b) :
    Calls Try.prog 8 #[tmV pa a, tmV pb b] w fun e w' => e = .returned (.bool true) ∧ Below w.heap.size w w' := by
  obtain ⟨W, hW⟩ : ∃ W, W = (w.alloc (tmO pa a)).alloc (tmO pb b) := ⟨_, rfl⟩
  have hb : Below w.heap.size w W := by rw [hW]; exact below_alloc (below_alloc (Below.refl _ _) _) _
  have HX := Aside0.mk (show W.heap[w.heap.size]? = some (tmO pa a) by rw [hW]; exact box0 w _ _)
  have HY := Aside0.mk (show W.heap[w.heap.size + 1]? = some (tmO pb b) by rw [hW]; exact box1 w _ _)
  have HA := Aside0.mk (hina.stay hb)
  have HC := Aside0.mk (hinb.stay hb)
  have HB := Aside0.mk hb
  clear hina hinb hb
  unfold tmV
  unfold tmO at hW
  go_enter Try.func8, Try.ntmps8
  go_upto_region 1 with (fail)
  rw [← hW]
  clear hW
  refine ts_region W w.heap.size w.heap.size pa a (w.heap.size + 1) pb b _ _ HB.out.size HX.out HA.out HY.out HC.out rfl rfl ?_
  intro w1 hch
  have HB1 := Aside0.mk (below_then HB.out HB.out.size (hch.below (fun _ h => h.elim False.elim False.elim) (Nat.le_refl _)))
  clear hch
  go_wp2
  go_ret
  exact ⟨rfl, HB1.out⟩

end Go.Proofs.Ytdboloabpjmgaaa

/-! LvIn -/
namespace Go.Proofs.Ytdboloabpjmgaaa
open Go.RowKit Go.Proofs.YtdboloabpjmgaaaW.PrintWords Go.RegionInvYtdboloabpjmgaaa Go.ChangeShapes Go.WideShapes Go.Deep

instance : Inhabited Lv := ⟨.mk 0 0 []⟩
set_option maxRecDepth 100000 in
theorem lv_open {H : Type} {enc : TypeId × Value → H} {W : World} {base : Nat} {sp : Nat → Bool} {held : Bool} (F : Nat) : ∀ (fuel : Nat), fuel ≤ F → ∀ (cs : List Value) (x : DataW H × List MemPlace),
    DataW.trod enc Try.prog W base sp held fuel 25 cs = some x → ∃ (l : Lv) (A : Option Addr) (c : Nat), cs = [.int .i64 l.kind, .int .i64 l.num, .slice A l.kids.length c] ∧ LvS W (fun _ => True) A c l ∧ (Lit.int .i64 l.kind).wf = true ∧ (Lit.int .i64 l.num).wf = true := by
  induction F with
  | zero =>
    intro fuel hF cs x h
    obtain ⟨xs, n, hn, _⟩ := DataW.trod_struct Try.underlying25 h
    omega
  | succ F ih =>
    intro fuel hF cs x h
    obtain ⟨xs, n, hn, hx, hl, hxl, hf⟩ := DataW.trod_struct Try.underlying25 h
    have hl3 : cs.length = 3 := by rw [hl]; kernel_rfl
    match xs, hxl, cs, hl3 with
    | [y0, y1, y2], _, [v0, v1, v2], _ =>
      have g0 : DataW.trod enc Try.prog W base sp held n 3 [v0] = some y0 := hf 0 _ rfl
      have g1 : DataW.trod enc Try.prog W base sp held n 3 [v1] = some y1 := hf 1 _ rfl
      have g2 : DataW.trod enc Try.prog W base sp held n 23 [v2] = some y2 := hf 2 _ rfl
      obtain ⟨k, e0, _, w0⟩ := DataW.trod_int Try.underlying3 g0
      obtain ⟨m, e1, _, w1⟩ := DataW.trod_int Try.underlying3 g1
      obtain rfl : v0 = .int .i64 k := by simpa using e0
      obtain rfl : v1 = .int .i64 m := by simpa using e1
      rcases DataW.trod_slice Try.underlying23 g2 with ⟨e2, _⟩ | ⟨a, len, cap, elems, rest, n', hn', e2, _, _, hle, hm, hlen, hel, _, _⟩
      · obtain rfl : v2 = .slice none 0 0 := by simpa using e2
        exact ⟨.mk k m [], none, 0, rfl, .mk (fun _ => none) (fun _ => 0) (by simp) (by omega) (fun i x hx => by simp at hx) (fun i x hx => by simp at hx), w0, w1⟩
      · obtain rfl : v2 = .slice (some a) len cap := by simpa using e2
        have hc3 : Try.prog.cellsOf 25 = 3 := by kernel_rfl
        rw [hc3] at hel
        have each : ∀ i, i < len → ∃ q : Lv × Option Addr × Nat, W.cells? base (a.add (i * 3)) 3 = some [.int .i64 q.1.kind, .int .i64 q.1.num, .slice q.2.1 q.1.kids.length q.2.2] ∧ LvS W (fun _ => True) q.2.1 q.2.2 q.1 := by
          intro i hi
          have hq := hel i hi
          rw [List.getElem?_eq_getElem (by omega)] at hq
          obtain ⟨cs', h1, h2⟩ := Option.bind_eq_some_iff.1 hq
          obtain ⟨l, A, c, rfl, h3, _⟩ := ih n' (by omega) cs' _ h2
          exact ⟨(l, A, c), h1, h3⟩
        obtain ⟨q, hq⟩ := choose_lt each
        have hcell : ∀ i, i < len → ∀ j, j < 3 → W.cell? ((a.add (i * 3)).add j) = ([.int .i64 (q i).1.kind, .int .i64 (q i).1.num, .slice (q i).2.1 (q i).1.kids.length (q i).2.2] : List Value)[j]? := fun i hi j hj => (World.cells?_some (hq i hi).1).2.2 j hj
        have hget : ∀ (i : Nat) (x : Lv), ((List.range len).map fun i => (q i).1)[i]? = some x → i < len ∧ x = (q i).1 := by
          intro i x hx
          have hi : i < len := by
            rcases Nat.lt_or_ge i len with h | h
            · exact h
            · rw [List.getElem?_eq_none (by simpa using h)] at hx; cases hx
          rw [List.getElem?_map, List.getElem?_range hi] at hx
          exact ⟨hi, (Option.some.inj hx).symm⟩
        refine ⟨.mk k m ((List.range len).map fun i => (q i).1), some a, cap, by simp [Lv.kind, Lv.num, Lv.kids], .mk (fun i => (q i).2.1) (fun i => (q i).2.2) (by simpa using hle) (by simp only [maxLen] at hm; omega) (fun i x hx => ?_) (fun i x hx => ?_), w0, w1⟩
        · obtain ⟨hi, rfl⟩ := hget i x hx
          have hsp : a.spot = none := by
            have h0 := hcell 0 (by omega) 0 (by omega)
            simp only [Nat.zero_mul, Addr.add, if_true] at h0
            cases hs : a.spot with
            | none => rfl
            | some z => simp [World.cell?, hs] at h0; split at h0 <;> simp at h0
          obtain ⟨b, o, z⟩ := a
          obtain rfl : z = none := hsp
          have c0 := hcell i hi 0 (by omega)
          have c1 := hcell i hi 1 (by omega)
          have c2 := hcell i hi 2 (by omega)
          simp only [add_flat] at c0 c1 c2
          exact ⟨_, rfl, trivial, rfl, by rw [add_flat]; exact c0, by rw [add_flat]; exact c1, by rw [add_flat]; exact c2⟩
        · obtain ⟨hi, rfl⟩ := hget i x hx
          exact (hq i hi).2
end Go.Proofs.Ytdboloabpjmgaaa

/-! LvsIn -/
namespace Go.Proofs.Ytdboloabpjmgaaa
open Go.RowKit Go.Proofs.YtdboloabpjmgaaaW.PrintWords Go.RegionInvYtdboloabpjmgaaa Go.ChangeShapes Go.WideShapes Go.Deep

set_option maxRecDepth 100000 in
theorem lvs_open {H : Type} {enc : TypeId × Value → H} {W : World} {base : Nat} {sp : Nat → Bool} {held : Bool} {fuel : Nat} {v2 : Value} {y2 : DataW H × List MemPlace} (g2 : DataW.trod enc Try.prog W base sp held fuel 23 [v2] = some y2) :
    ∃ (vs : List Lv) (A : Option Addr) (c : Nat), v2 = .slice A vs.length c ∧ LvS W (fun _ => True) A c (.mk 0 0 vs) := by
  rcases DataW.trod_slice Try.underlying23 g2 with ⟨e2, _⟩ | ⟨a, len, cap, elems, rest, n', hn', e2, _, _, hle, hm, hlen, hel, _, _⟩
  · obtain rfl : v2 = .slice none 0 0 := by simpa using e2
    exact ⟨[], none, 0, rfl, .mk (fun _ => none) (fun _ => 0) (by simp) (by omega) (fun i x hx => by simp at hx) (fun i x hx => by simp at hx)⟩
  · obtain rfl : v2 = .slice (some a) len cap := by simpa using e2
    have hc3 : Try.prog.cellsOf 25 = 3 := by kernel_rfl
    rw [hc3] at hel
    have each : ∀ i, i < len → ∃ q : Lv × Option Addr × Nat, W.cells? base (a.add (i * 3)) 3 = some [.int .i64 q.1.kind, .int .i64 q.1.num, .slice q.2.1 q.1.kids.length q.2.2] ∧ LvS W (fun _ => True) q.2.1 q.2.2 q.1 := by
      intro i hi
      have hq := hel i hi
      rw [List.getElem?_eq_getElem (by omega)] at hq
      obtain ⟨cs', h1, h2⟩ := Option.bind_eq_some_iff.1 hq
      obtain ⟨l, A, c, rfl, h3, _⟩ := lv_open n' n' (Nat.le_refl _) cs' _ h2
      exact ⟨(l, A, c), h1, h3⟩
    obtain ⟨q, hq⟩ := choose_lt each
    have hcell : ∀ i, i < len → ∀ j, j < 3 → W.cell? ((a.add (i * 3)).add j) = ([.int .i64 (q i).1.kind, .int .i64 (q i).1.num, .slice (q i).2.1 (q i).1.kids.length (q i).2.2] : List Value)[j]? := fun i hi j hj => (World.cells?_some (hq i hi).1).2.2 j hj
    have hget : ∀ (i : Nat) (x : Lv), ((List.range len).map fun i => (q i).1)[i]? = some x → i < len ∧ x = (q i).1 := by
      intro i x hx
      have hi : i < len := by
        rcases Nat.lt_or_ge i len with h | h
        · exact h
        · rw [List.getElem?_eq_none (by simpa using h)] at hx; cases hx
      rw [List.getElem?_map, List.getElem?_range hi] at hx
      exact ⟨hi, (Option.some.inj hx).symm⟩
    refine ⟨(List.range len).map fun i => (q i).1, some a, cap, by simp, .mk (fun i => (q i).2.1) (fun i => (q i).2.2) (by simpa using hle) (by simp only [maxLen] at hm; omega) (fun i x hx => ?_) (fun i x hx => ?_)⟩
    · obtain ⟨hi, rfl⟩ := hget i x hx
      have hsp : a.spot = none := by
        have h0 := hcell 0 (by omega) 0 (by omega)
        simp only [Nat.zero_mul, Addr.add, if_true] at h0
        cases hs : a.spot with
        | none => rfl
        | some z => simp [World.cell?, hs] at h0; split at h0 <;> simp at h0
      obtain ⟨b, o, z⟩ := a
      obtain rfl : z = none := hsp
      have c0 := hcell i hi 0 (by omega)
      have c1 := hcell i hi 1 (by omega)
      have c2 := hcell i hi 2 (by omega)
      simp only [add_flat] at c0 c1 c2
      exact ⟨_, rfl, trivial, rfl, by rw [add_flat]; exact c0, by rw [add_flat]; exact c1, by rw [add_flat]; exact c2⟩
    · obtain ⟨hi, rfl⟩ := hget i x hx
      exact (hq i hi).2
end Go.Proofs.Ytdboloabpjmgaaa

/-! TmInT -/
namespace Go.Proofs.Ytdboloabpjmgaaa
open Go.RowKit Go.Proofs.YtdboloabpjmgaaaW.PrintWords Go.RegionInvYtdboloabpjmgaaa Go.ChangeShapes Go.WideShapes Go.Deep

section
variable {H : Type} {enc : TypeId × Value → H} {W : World} {base : Nat} {sp : Nat → Bool} {held : Bool}
def Sized (t : TypeId) (d : DataW H) : Prop := (DataW.weights Try.prog t d).all (· ≤ reachBytes) = true
theorem all_at {t : TypeId} : ∀ {l : List (DataW H)}, (DataW.weightsAll Try.prog t l).all (· ≤ reachBytes) = true → ∀ (i : Nat) (d : DataW H), l[i]? = some d → Sized t d
  | [], _, i, d, h => by simp at h
  | x :: r, hw, i, d, h => by
    rw [DataW.weightsAll, List.all_append, Bool.and_eq_true] at hw
    cases i with
    | zero => simp at h; subst h; exact hw.1
    | succ j => exact all_at hw.2 j d (by simpa using h)
theorem each_at : ∀ {ts : List TypeId} {l : List (DataW H)}, (DataW.weightsEach Try.prog ts l).all (· ≤ reachBytes) = true → ∀ (i : Nat) (t : TypeId) (d : DataW H), ts[i]? = some t → l[i]? = some d → Sized t d
  | [], l, _, i, t, d, h, _ => by simp at h
  | _ :: _, [], _, i, t, d, _, h => by simp at h
  | s :: ts, x :: r, hw, i, t, d, ht, hd => by
    rw [DataW.weightsEach, List.all_append, Bool.and_eq_true] at hw
    cases i with
    | zero => simp at ht hd; subst ht; subst hd; exact hw.1
    | succ j => exact each_at hw.2 j t d (by simpa using ht) (by simpa using hd)
theorem sized_agg {t : TypeId} {fs : Array Field} {ps : List (DataW H)} (hu : Try.prog.underlying t = some (.struct fs)) (h : Sized t (.agg ps)) : ∀ (i : Nat) (f : Field) (d : DataW H), fs[i]? = some f → ps[i]? = some d → Sized f.type d := by
  unfold Sized at h
  rw [DataW.weights, hu] at h
  intro i f d hf hd
  exact each_at h i f.type d (by simp [hf]) hd
theorem sized_slices {t e : TypeId} {es rs : List (DataW H)} (hu : Try.prog.underlying t = some (.slice e)) (h : Sized t (.slice es rs)) : (es.length + rs.length) * Try.prog.bytesOf e ≤ 140737488351232 ∧ ∀ (i : Nat) (d : DataW H), es[i]? = some d → Sized e d := by
  unfold Sized at h
  rw [DataW.weights, hu] at h
  simp only [List.all_cons, List.all_append, Bool.and_eq_true, decide_eq_true_eq] at h
  exact ⟨h.1, fun i d hd => all_at h.2.1 i d hd⟩
theorem sized_str {t : TypeId} {s : List UInt8} (h : Sized (H := H) t (.lit (.string s))) : s.length ≤ 140737488351232 := by
  unfold Sized at h
  rw [DataW.weights] at h
  have h' : s.length ≤ reachBytes := by simpa using h
  exact h'
theorem lvs_len {fuel : Nat} {v : Value} {y : DataW H × List MemPlace} (g : DataW.trod enc Try.prog W base sp held fuel 23 [v] = some y) (hw : Sized 23 y.1) {A : Option Addr} {n c : Nat} (he : v = .slice A n c) : n * 40 ≤ 140737488355328 := by
  subst he
  rcases DataW.trod_slice Try.underlying23 g with ⟨e2, _⟩ | ⟨a, len, cap, elems, rest, n', hn', e2, hy, _, hle, hm, hlen, hel, _, _⟩
  · have : n = 0 := by simp at e2; exact e2.2.1
    omega
  · have : n = len := by simp at e2; exact e2.2.1
    subst this
    subst hy
    have h := (sized_slices Try.underlying23 hw).1
    rw [show Try.prog.bytesOf 25 = 40 by kernel_rfl] at h
    simp only [List.length_map] at h
    have := Nat.le_mul_of_pos_right elems.length (show 0 < 40 by decide)
    have h2 : n * 40 ≤ (elems.length + rest.length) * 40 := Nat.mul_le_mul_right _ (by omega)
    omega
theorem plain_addr {a : Addr} {v : Value} (h : W.cell? a = some v) : a.spot = none := by
  cases hs : a.spot with
  | none => rfl
  | some z => simp [World.cell?, hs] at h; split at h <;> simp at h
theorem int_range {n : Int} (h : (Lit.int .i64 n).wf = true) : -9223372036854775808 ≤ n ∧ n ≤ 9223372036854775807 := by simpa [Lit.wf, IntKind.min, IntKind.max, IntKind.signed, IntKind.bits] using h
set_option maxRecDepth 100000 in
set_option maxHeartbeats 4000000 in
theorem tm_open (F : Nat) : ∀ (fuel : Nat), fuel ≤ F → ∀ (cs : List Value) (x : DataW H × List MemPlace), DataW.trod enc Try.prog W base sp held fuel 28 cs = some x → Sized 28 x.1 →
    ∃ (t : Tm) (p : Pl), cs = tmC p t ∧ TmS W (fun _ => True) p t := by
  induction F with
  | zero =>
    intro fuel hF cs x h
    obtain ⟨xs, n, hn, _⟩ := DataW.trod_struct Try.underlying28 h
    omega
  | succ F ih =>
    intro fuel hF cs x h hw
    obtain ⟨xs, n, hn, hx, hl, hxl, hf⟩ := DataW.trod_struct Try.underlying28 h
    have hl8 : cs.length = 8 := by rw [hl]; kernel_rfl
    match xs, hxl, cs, hl8 with
    | [y0, y1, y2, y3, y4, y5], _, [v0, v1, v2, v3, v4, v5, v6, v7], _ =>
      subst hx
      have g0 : DataW.trod enc Try.prog W base sp held n 3 [v0] = some y0 := hf 0 _ rfl
      have g1 : DataW.trod enc Try.prog W base sp held n 3 [v1] = some y1 := hf 1 _ rfl
      have g2 : DataW.trod enc Try.prog W base sp held n 9 [v2] = some y2 := hf 2 _ rfl
      have g3 : DataW.trod enc Try.prog W base sp held n 25 [v3, v4, v5] = some y3 := hf 3 _ rfl
      have g4 : DataW.trod enc Try.prog W base sp held n 23 [v6] = some y4 := hf 4 _ rfl
      have g5 : DataW.trod enc Try.prog W base sp held n 26 [v7] = some y5 := hf 5 _ rfl
      have z2 : Sized 9 y2.1 := sized_agg Try.underlying28 hw 2 _ _ rfl rfl
      have z4 : Sized 23 y4.1 := sized_agg Try.underlying28 hw 4 _ _ rfl rfl
      have z5 : Sized 26 y5.1 := sized_agg Try.underlying28 hw 5 _ _ rfl rfl
      obtain ⟨k, e0, _, w0⟩ := DataW.trod_int Try.underlying3 g0
      obtain ⟨m, e1, _, w1⟩ := DataW.trod_int Try.underlying3 g1
      obtain ⟨s, e2, e2', _⟩ := DataW.trod_string Try.underlying9 g2
      obtain rfl : v0 = .int .i64 k := by simpa using e0
      obtain rfl : v1 = .int .i64 m := by simpa using e1
      obtain rfl : v2 = .string s := by simpa using e2
      have hs : s.size ≤ 140737488355328 := by
        rw [e2'] at z2
        have := sized_str z2
        simp at this
        have e : s.size = s.data.size := rfl
        omega
      obtain ⟨l, A, c, e3, hlv, _, _⟩ := lv_open n n (Nat.le_refl _) _ _ g3
      obtain ⟨ls, B, d, rfl, hls⟩ := lvs_open g4
      have hll := lvs_len g4 z4 rfl
      obtain ⟨rfl, rfl, rfl⟩ : v3 = .int .i64 l.kind ∧ v4 = .int .i64 l.num ∧ v5 = .slice A l.kids.length c := by simpa using e3
      have hfit : Fit m s ls := ⟨int_range w1, hs, hll⟩
      rcases DataW.trod_slice Try.underlying26 g5 with ⟨e5, _⟩ | ⟨a, len, cap, elems, rest, n', hn', e5, hy, _, hle, hm, hlen, hel, _, _⟩
      · obtain rfl : v7 = .slice none 0 0 := by simpa using e5
        exact ⟨.mk k m s l ls [], ⟨A, c, B, d, none, 0⟩, rfl, .mk (fun _ => default) hlv hls (by simp) (by simp) hfit (fun i x hx => by simp at hx) (fun i x hx => by simp at hx)⟩
      · obtain rfl : v7 = .slice (some a) len cap := by simpa using e5
        subst hy
        have hz := (sized_slices Try.underlying26 z5).2
        have hc8 : Try.prog.cellsOf 28 = 8 := by kernel_rfl
        rw [hc8] at hel
        have each : ∀ i, i < len → ∃ q : Tm × Pl, W.cells? base (a.add (i * 8)) 8 = some (tmC q.2 q.1) ∧ TmS W (fun _ => True) q.2 q.1 := by
          intro i hi
          have hq := hel i hi
          rw [List.getElem?_eq_getElem (by omega)] at hq
          obtain ⟨cs', h1, h2⟩ := Option.bind_eq_some_iff.1 hq
          obtain ⟨t, p, rfl, h3⟩ := ih n' (by omega) cs' _ h2 (hz i _ (by rw [List.getElem?_map, List.getElem?_eq_getElem (by omega)]; rfl))
          exact ⟨(t, p), h1, h3⟩
        obtain ⟨q, hq⟩ := choose_lt each
        have hcell : ∀ i, i < len → ∀ j, j < 8 → W.cell? ((a.add (i * 8)).add j) = (tmC (q i).2 (q i).1)[j]? := fun i hi j hj => (World.cells?_some (hq i hi).1).2.2 j hj
        have hget : ∀ (i : Nat) (x : Tm), ((List.range len).map fun i => (q i).1)[i]? = some x → i < len ∧ x = (q i).1 := by
          intro i x hx
          have hi : i < len := by
            rcases Nat.lt_or_ge i len with h | h
            · exact h
            · rw [List.getElem?_eq_none (by simpa using h)] at hx; cases hx
          rw [List.getElem?_map, List.getElem?_range hi] at hx
          exact ⟨hi, (Option.some.inj hx).symm⟩
        refine ⟨.mk k m s l ls ((List.range len).map fun i => (q i).1), ⟨A, c, B, d, some a, cap⟩, by simp [tmC, Tm.kind, Tm.num, Tm.name, Tm.lv, Tm.ls, Tm.kids], .mk (fun i => (q i).2) hlv hls (by simpa using hle) (by simp only [maxLen] at hm; exact hm) hfit (fun i x hx => ?_) (fun i x hx => ?_)⟩
        · obtain ⟨hi, rfl⟩ := hget i x hx
          have h0 := hcell 0 (by omega) 0 (by omega)
          simp only [Nat.zero_mul, Addr.add, if_true] at h0
          have hsp : a.spot = none := plain_addr (h0.trans (by rfl))
          obtain ⟨b, o, z⟩ := a
          obtain rfl : z = none := hsp
          refine ⟨b, o, rfl, trivial, fun j v hv => ?_⟩
          have hj : j < 8 := by
            rcases Nat.lt_or_ge j 8 with h | h
            · exact h
            · rw [List.getElem?_eq_none (by rw [tmC_len]; exact h)] at hv; cases hv
          have c0 := hcell i hi j hj
          simp only [add_flat] at c0
          rw [c0]
          exact hv
        · obtain ⟨hi, rfl⟩ := hget i x hx
          exact (hq i hi).2
set_option maxRecDepth 100000 in
theorem tm_in {v : Value} {d : DataW H} {ps : List MemPlace} {r : Reach} {b0 : Nat} (hv : Value.okWide Try.prog W r b0 28 v) (h : DataW.Trod enc Try.prog W base sp held 28 v d ps) (hw : Sized 28 d) :
    ∃ (t : Tm) (p : Pl), v = tmV p t ∧ TmS W (fun _ => True) p t := by
  obtain ⟨cs, rfl, hcs⟩ := okWide_struct Try.underlying28 hv
  obtain ⟨fuel, hf⟩ := h
  obtain ⟨t, p, he, ht⟩ := tm_open fuel fuel (Nat.le_refl _) _ _ hf hw
  refine ⟨t, p, ?_, ht⟩
  unfold tmV
  congr 1
  apply Array.toList_inj.1
  simpa [Value.cells, tmC] using he

end
end Go.Proofs.Ytdboloabpjmgaaa
