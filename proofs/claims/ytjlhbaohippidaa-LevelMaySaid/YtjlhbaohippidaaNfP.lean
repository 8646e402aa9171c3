/-
  The walk of plus.
-/
import Derived.Test.YtjlhbaohippidaaNf
namespace Go.Proofs.Ytjlhbaohippidaa
open Go.RowKit Go.Proofs.YtjlhbaohippidaaW.PrintWords Go.RegionInvYtjlhbaohippidaa

theorem rd_nat' (xs : List Int) (j : Nat) : rd xs (j : Int) = xs.getD j 0 := by simp [rd]
theorem infoI64 : (Try.prog.info? 3).map (fun i => (i.zero, i.size, i.bytes)) = some (some (.int .i64 0), 1, 8) := by kernel_rfl
theorem own_slice' {w : World} {base n : Nat} {e : TypeId} {size : Nat} {v : Value} {xs : List Value} (h : w.ownsRow base e size v n xs) : ∃ A L c, v = .slice A L c ∧ L = n := by
  obtain ⟨A, c, rfl⟩ := own_slice h
  exact ⟨A, n, c, rfl, rfl⟩
/-- The box of what is made, at o; its row V; the result's box. -/
structure Mk2 (w wr : World) (o : Nat) (x : Int) (V : Value) (ys : List Int) : Prop where
  box : wr.heap[o]? = some (.cells #[.int .i64 x, V] 52 (0, 0))
  row : wr.ownsRow (o + 1) 3 1 V ys.length (nums .i64 ys)
  bel : Below w.heap.size w wr
theorem Mk2.grow {w wr w6 : World} {o : Nat} {x : Int} {V V6 : Value} {ys zs : List Int} (h : Mk2 w wr o x V ys) (ho : w.heap.size ≤ o) (ho6 : w6.ownsRow (o + 1) 3 1 V6 zs.length (nums .i64 zs)) (hg : wr.grownBy w6 V.ownBlock) :
    w6.heap[o]? = some (.cells #[.int .i64 x, V] 52 (0, 0)) ∧ (∀ (g : Nat) (ob : Obj), g ≤ o → wr.heap[g]? = some ob → w6.heap[g]? = some ob) ∧ Mk2 w (w6.setCell ⟨o, 1, none⟩ V6) o x V6 zs := by
  have far : ∀ k, k < o + 1 → some k ≠ V.ownBlock := fun k hk e => by have := own_base h.row k e.symm; omega
  have h1 : w6.heap[o]? = some (.cells #[.int .i64 x, V] 52 (0, 0)) := (hg.block _ (blk_lt h.box) (far _ (by omega))).trans h.box
  have hb : Below w.heap.size w w6 := ⟨hg.os.trans h.bel.os, hg.tape.trans h.bel.tape, hg.output.trans h.bel.output, Nat.le_trans h.bel.size hg.size, fun i hi => (hg.block i (Nat.lt_of_lt_of_le hi h.bel.size) (far i (by omega))).trans (h.bel.block i hi)⟩
  have hch := chg_set w6 o 1 V6
  refine ⟨h1, fun g ob hgo hgb => (hg.block _ (blk_lt hgb) (far _ (by omega))).trans hgb, ⟨blk_put h1 1 V6 rfl, ?_, Chg.trans_below hb hch (fun _ e => by omega) hb.size⟩⟩
  exact own_setCell ho6 (fun e => by have := own_base ho6 o e.symm; omega) _

set_option maxHeartbeats 4000000 in
theorem plusN_calls (A : Option Addr) (n cap : Nat) (c k : Int) (ks : List Int) (w : World) (hr : ReadsInt w .i64 A n ks) (hc0 : 0 ≤ c) (hc1 : c ≤ 1099511627776) (hk0 : 0 ≤ k) (hk1 : k ≤ 1099511627776) (hks : ∀ x ∈ ks, -1 ≤ x ∧ x ≤ 1099511627776) (hl : n ≤ 1000000) :
    Calls Try.prog 51 #[.agg #[.int .i64 c, .slice A n cap], .int .i64 k] w (NfGot w (fun _ => False) (plusN k (c, ks))) := by
  have HR := Aside0.mk hr
  have HN := Aside0.mk hr.1
  have HKS := Aside0.mk hks
  clear hr hks
  go_enter Try.func51, Try.ntmps51
  go_upto_region 2 with (fail)
  obtain ⟨x, hx⟩ : ∃ x, x = (if c + k < 1099511627776 then c + k else 1099511627776) := ⟨_, rfl⟩
  rw [← hx]
  have HXE := Aside0.mk (show x = min 1099511627776 (c + k) by rw [hx]; omega)
  clear hx
  go_upto_block 0 with (fail)
  have hst : Mk2 w (((w.alloc (.cells #[.int .i64 c, .slice A n cap] 52 (0, 0))).alloc (.cells #[.int .i64 0, .slice none 0 0] 52 (0, 0))).alloc (.cells #[.int .i64 x, .slice none 0 0] 52 (0, 0))) (w.heap.size + 1 + 1) x (.slice none 0 0) [] := by
    refine ⟨?_, own_nil _ _ _ _, below_alloc (below_alloc (below_alloc (Below.refl _ _) _) _) _⟩
    have := blk_new ((w.alloc (.cells #[.int .i64 c, .slice A n cap] 52 (0, 0))).alloc (.cells #[.int .i64 0, .slice none 0 0] 52 (0, 0))) (.cells #[.int .i64 x, .slice none 0 0] 52 (0, 0))
    simpa using this
  have hres := blk_alloc (box1 w (.cells #[.int .i64 c, .slice A n cap] 52 (0, 0)) (.cells #[.int .i64 0, .slice none 0 0] 52 (0, 0))) (.cells #[.int .i64 x, .slice none 0 0] 52 (0, 0))
  have HST := Aside0.mk hst
  have HRES := Aside0.mk hres
  clear hst hres
  go_wp2
  go_loopw [17] (fun i wr => ∃ (j : Nat) (V : Value), i = .int .i64 j ∧ j ≤ n ∧ Aside0 (Mk2 w wr (w.heap.size + 1 + 1) x V ((ks.take j).map (addN k))) ∧ Aside0 (wr.heap[w.heap.size + 1]? = some (.cells #[.int .i64 0, .slice none 0 0] 52 (0, 0)))) (fun i _ => n - (intOf i).toNat)
  case atStart => exact ⟨0, _, rfl, Nat.zero_le _, HST, HRES⟩
  case round =>
    clear HST HRES
    obtain ⟨j, V, rfl, hj, HST, HRES⟩ := hrel
    obtain ⟨d0, d1, -, e1⟩ := row2 HST.out.box
    obtain ⟨A0, c0, rfl⟩ := own_slice HST.out.row
    obtain ⟨L, hL⟩ : ∃ L, L = ((ks.take j).map (addN k)).length := ⟨_, rfl⟩
    rw [← hL] at HST d1
    have HL := Aside0.mk hL
    have HLJ := Aside0.mk (show L = j by rw [hL]; simp; have := HN.out; omega)
    clear hL
    by_cases hlt : j < n
    · obtain ⟨ad, rfl, hcell⟩ := (HR.out.below HST.out.bel).at_ j (by omega) (by omega)
      rw [Int.toNat_natCast] at hcell
      obtain ⟨y, hy⟩ : ∃ y, y = rd ks (j : Int) := ⟨_, rfl⟩
      rw [← hy] at hcell
      have hmem : -1 ≤ y ∧ y ≤ 1099511627776 := by
        rw [hy, rd_nat', List.getD_eq_getElem?_getD, List.getElem?_eq_getElem (by rw [HN.out]; exact hlt)]
        exact HKS.out _ (List.getElem_mem _)
      have hget : ks[j]? = some y := by rw [hy, rd_nat', List.getD_eq_getElem?_getD, List.getElem?_eq_getElem (by rw [HN.out]; exact hlt)]; rfl
      have HT := Aside0.mk (show (ks.take (j + 1)).map (addN k) = (ks.take j).map (addN k) ++ [addN k y] by
        rw [List.take_add_one, hget, List.map_append]; rfl)
      clear hget
      have HLEN := Aside0.mk (show ((ks.take j).map (addN k)).length = j by rw [← HL.out]; exact HLJ.out)
      have hbase : w.heap.size + 1 + 1 + 1 ≤ wr.heap.size := blk_lt HST.out.box
      clear hy
      by_cases h0 : 0 ≤ y
      · have HA := Aside0.mk (show addN k y = (if y + k < 1099511627776 then y + k else 1099511627776) by unfold addN; rw [if_pos h0]; omega)
        go_wp2_with (first
          | (at_builtin; go_must (refine print_append_num (w0 := wr) (w.heap.size + 1 + 1 + 1) rfl (.tmp 28) (.tmp 30) 29 3 .i64 8 rfl Try.underlying29 infoI64 (by decide) (.slice A0 L c0) ((ks.take j).map (addN k)) _ rfl rfl HST.out.row (Below.refl _ _) hbase (by rw [HLEN.out]; omega) ?_; intro v1 w1 ho _ hg _; obtain ⟨A6, L6, c6, rfl, -⟩ := own_slice' ho; have HG := Aside0.mk (HST.out.grow (Nat.le_of_lt (by omega)) ho hg); have HR6 := Aside0.mk (HG.out.2.1 _ _ (by omega) HRES.out); obtain ⟨d0, d1, -, e1⟩ := row2 HG.out.1; clear ho hg)))
        go_roundw
        case rel =>
          refine ⟨j + 1, .slice A6 L6 c6, by go_num, by omega, ⟨?_⟩, ⟨((chg_set w1 (w.heap.size + 1 + 1) 1 _).block _ (blk_lt HR6.out) (by omega)).trans HR6.out⟩⟩
          rw [HT.out, HA.out]
          exact HG.out.2.2
        case measure => (simp [intOf]; try omega)
      · have HA := Aside0.mk (show addN k y = y by unfold addN; rw [if_neg h0])
        go_wp2_with (first
          | (at_builtin; go_must (refine print_append_num (w0 := wr) (w.heap.size + 1 + 1 + 1) rfl (.tmp 28) (.tmp 30) 29 3 .i64 8 rfl Try.underlying29 infoI64 (by decide) (.slice A0 L c0) ((ks.take j).map (addN k)) _ rfl rfl HST.out.row (Below.refl _ _) hbase (by rw [HLEN.out]; omega) ?_; intro v1 w1 ho _ hg _; obtain ⟨A6, L6, c6, rfl, -⟩ := own_slice' ho; have HG := Aside0.mk (HST.out.grow (Nat.le_of_lt (by omega)) ho hg); have HR6 := Aside0.mk (HG.out.2.1 _ _ (by omega) HRES.out); obtain ⟨d0, d1, -, e1⟩ := row2 HG.out.1; clear ho hg)))
        go_roundw
        case rel =>
          refine ⟨j + 1, .slice A6 L6 c6, by go_num, by omega, ⟨?_⟩, ⟨((chg_set w1 (w.heap.size + 1 + 1) 1 _).block _ (blk_lt HR6.out) (by omega)).trans HR6.out⟩⟩
          rw [HT.out, HA.out]
          exact HG.out.2.2
        case measure => (simp [intOf]; try omega)
    · obtain rfl : j = n := by omega
      have hlt' : decide ((j : Int) < j) = false := by simp
      obtain ⟨f0, f1, g0, g1⟩ := row2 HRES.out
      have hfin : L ≤ c0 ∧ IntsS wr (fun b => w.heap.size + 1 + 1 + 1 ≤ b) A0 L ((ks.take j).map (addN k)) := by
        obtain ⟨A9, c9, hv, hcap, hints⟩ := IntsS.of_own HST.out.row
        rw [← HL.out] at hv hcap hints
        injection hv with h1 h2 h3
        subst h1; subst h3
        exact ⟨hcap, hints⟩
      have HF := Aside0.mk hfin
      clear hfin
      go_wp2
      have hch := chg_set2 wr (w.heap.size + 1) (.int .i64 x) (.slice A0 L c0)
      refine bodyPost_ret (results_c rfl _ _ (w.heap.size + 1) 52 #[.int .i64 x, .slice A0 L c0] (0, 0) _ rfl (set2 HRES.out) Try.underlying52 rfl (by kernel_rfl)) rfl ?_
      have hks : ks.take j = ks := List.take_of_length_le (by rw [HN.out]; exact Nat.le_refl _)
      have h1 := HF.out
      rw [hks] at h1
      refine ⟨A0, L, c0, ?_, h1.1, (h1.2.same fun b hb hz => hch.block b hz (by omega)).mono fun b hb _ => .inr (by omega), Chg.trans_below HST.out.bel hch (fun _ e => by omega) HST.out.bel.size⟩
      show Ending.returned (.agg #[.int .i64 x, .slice A0 L c0]) = Ending.returned (.agg #[.int .i64 (min 1099511627776 (c + k)), .slice A0 L c0])
      rw [HXE.out]
end Go.Proofs.Ytjlhbaohippidaa
