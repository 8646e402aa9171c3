/-
  The walks of the reference's Reader: Number and Bytes.
-/
import Derived.Test.YtcgmfbefikpkbaaWireLS
namespace Go.Proofs.Ytcgmfbefikpkbaa
open Go.RowKit Go.Proofs.YtcgmfbefikpkbaaW.PrintWords Go.RegionInvYtcgmfbefikpkbaa

/-- The reader at g: what is left, and its refusal. -/
def RdAt (w : World) (g : Nat) (bs : List Int) (e : Int) : Prop :=
  ∃ A n c, w.heap[g]? = some (.cells #[.slice A n c, .int .i64 e] 47 (0, 0)) ∧ n ≤ c ∧ ReadsInt w .u8 A n bs ∧ ∀ i, i < n → ∃ ad, A = some ad ∧ ad.block < g
theorem own_chg {w w' : World} {base : Nat} {e t : TypeId} {size n g : Nat} {v : Value} {xs : List Value} {cs : Array Value} {fr : Nat × Nat} (h : w.ownsRow base e size v n xs) (hg : w.heap[g]? = some (.cells cs t fr)) (hne : e ≠ t) (hc : Chg (fun k => k = g) w w') : w'.ownsRow base e size v n xs := by
  refine ownsRow_same h fun k hk => hc.block k (own_lt h k hk) fun hkg => ?_
  rcases h.2 with ⟨rfl, _⟩ | ⟨b, cap, cur, rfl, _, hh, _⟩
  · simp [Value.ownBlock] at hk
  · have : b = k := by simpa [Value.ownBlock] using hk
    subst this; subst hkg
    rw [hg] at hh
    injection hh with hh
    injection hh with _ ht
    exact hne ht.symm
theorem OwnL.chg {w w' : World} {B g : Nat} {v : Value} {rows : List (List Int)} {cs : Array Value} {fr : Nat × Nat} (h : OwnL w B v rows) (hg : w.heap[g]? = some (.cells cs 47 fr)) (hc : Chg (fun k => k = g) w w') : OwnL w' B v rows := by
  obtain ⟨vs, ho, hl, he⟩ := h
  exact ⟨vs, own_chg ho hg (by decide) hc, hl, fun j v r hv hr => own_chg (he j v r hv hr) hg (by decide) hc⟩
theorem RdAt.below {w w' : World} {g : Nat} {bs : List Int} {e : Int} (h : RdAt w g bs e) (hb : Below w.heap.size w w') : RdAt w' g bs e := by
  obtain ⟨A, n, c, hg, hc, hr, ho⟩ := h
  exact ⟨A, n, c, blk_below hg hb, hc, hr.below hb, ho⟩
theorem reads_chg {w w' : World} {k : IntKind} {A : Option Addr} {n g : Nat} {xs : List Int} (h : ReadsInt w k A n xs) (ho : ∀ i, i < n → ∃ ad, A = some ad ∧ ad.block < g) (hg : g ≤ w.heap.size) (hc : Chg (fun k => k = g) w w') : ReadsInt w' k A n xs :=
  reads_old h ho (hc.below (fun _ e => e ▸ Nat.le_refl _) hg)
theorem chg_set (w : World) (g j : Nat) (v : Value) : Chg (fun k => k = g) w (w.setCell ⟨g, j, none⟩ v) :=
  ⟨rfl, rfl, rfl, by simp [World.setCell], fun i _ hne => Below.heap_setCell w ⟨g, j, none⟩ v i hne⟩
theorem chg_trans {S : Nat → Prop} {a w w' : World} (h : Chg S a w) (k : Chg S w w') : Chg S a w' :=
  ⟨k.os.trans h.os, k.tape.trans h.tape, k.output.trans h.output, Nat.le_trans h.size k.size, fun i hi hs => (k.block i (Nat.lt_of_lt_of_le hi h.size) hs).trans (h.block i hi hs)⟩
theorem cell_blk {w : World} {g j : Nat} {cs : Array Value} {t : TypeId} {v : Value} (h : w.heap[g]? = some (.cells cs t (0, 0))) (hj : cs[j]? = some v) : w.cell? ⟨g, j, none⟩ = some v := by
  rw [cell_of_row w g j cs t (0, 0) h]; exact hj
theorem rd_set0 {w : World} {g : Nat} {v u x : Value} {t : TypeId} (h : w.heap[g]? = some (.cells #[v, u] t (0, 0))) : (w.setCell ⟨g, 0, none⟩ x).heap[g]? = some (.cells #[x, u] t (0, 0)) := blk_put h 0 x rfl
theorem rd_set1 {w : World} {g : Nat} {v u x : Value} {t : TypeId} (h : w.heap[g]? = some (.cells #[v, u] t (0, 0))) : (w.setCell ⟨g, 1, none⟩ x).heap[g]? = some (.cells #[v, x] t (0, 0)) := blk_put h 1 x rfl

theorem run_cut_old {A : Option Addr} {n c : Nat} (m : Nat) (hm : m ≤ n) :
    ∃ A', (∀ W, (Instr.slice 22 (.slice A n c) (some (.int .i64 (m : Int))) none none).run Try.prog W = .ok (.slice A' (n - m) (c - m)) W) ∧ (∀ (w : World) (xs : List Int), n ≤ c → ReadsInt w .u8 A n xs → ReadsInt w .u8 A' (n - m) (xs.drop m)) ∧
      ∀ g, (∀ i, i < n → ∃ ad, A = some ad ∧ ad.block < g) → ∀ i, i < n - m → ∃ ad, A' = some ad ∧ ad.block < g := by
  obtain ⟨i, hi, hz⟩ := Option.map_eq_some_iff.1 infoU8
  have hs : i.size = 1 := by injection hz with _ hz; injection hz
  refine ⟨if c = m then A else A.map (·.add m), fun W => ?_, fun w xs hc h => h.drop_ m hm hc, fun g h i hi => ?_⟩
  · have hel : Try.prog.elem 22 = 5 := by kernel_rfl
    rw [run_slice_l W 22 A n c (by rw [hel]; exact Try.underlying22) .i64 (m : Int) (Int.natCast_nonneg _) (by omega), hel]
    simp [sizeOf, typeInfo, hi, hs, sliced, Result.andThen]
  · obtain ⟨ad, e, hlt⟩ := h 0 (by omega)
    split
    · exact ⟨ad, e, hlt⟩
    · exact ⟨ad.add m, by rw [e]; rfl, by unfold Addr.add; split <;> exact hlt⟩

theorem rd_grown {w w1 : World} {g : Nat} {bs : List Int} {e : Int} {u : Value} {k : Nat} {vs : List Value} (h : RdAt w g bs e) (ho : w.ownsRow g 22 1 u k vs) (hg : w.grownBy w1 u.ownBlock) : RdAt w1 g bs e := by
  obtain ⟨A, n, c, hb, hc, hr, hold⟩ := h
  refine ⟨A, n, c, ?_, hc, ⟨hr.1, hr.2.1, fun hn => ?_⟩, hold⟩
  · rw [hg.block g (blk_lt hb) fun e => ?_]
    · exact hb
    · rcases ho.2 with ⟨rfl, _⟩ | ⟨b, cap, cur, rfl, _, hh, _⟩
      · simp [Value.ownBlock] at e
      · have : g = b := by simpa [Value.ownBlock] using e
        subst this
        rw [hb] at hh
        injection hh with hh
        injection hh with _ ht
        exact absurd ht (by decide)
  · obtain ⟨ad, e, hcell⟩ := hr.2.2 hn
    obtain ⟨ad', e', hlt⟩ := hold 0 hn
    rw [e] at e'
    obtain rfl := Option.some.inj e'
    refine ⟨ad, e, fun j hj => ?_⟩
    have hx := hcell j hj
    have hbl : (ad.add j).block = ad.block := add_block _ _
    rw [← hx]
    unfold World.cell?
    rw [hbl, hg.block ad.block (by have := World.block_lt_of_cell? w _ hx; rwa [hbl] at this) fun e => by have := own_base ho _ e.symm; omega]
theorem via {w w1 wr : World} {g B : Nat} (h1 : Below B w w1) (hs : B ≤ w1.heap.size) (hg : g = w1.heap.size) (h : Below g w1 wr) : Below B w wr := by subst hg; exact below_then h1 hs h
theorem OwnL.via {w1 wr : World} {g B : Nat} {v : Value} {rows : List (List Int)} (h1 : OwnL w1 B v rows) (hg : g = w1.heap.size) (h : Below g w1 wr) : OwnL wr B v rows := by subst hg; exact h1.below h

def numR (xs : List Int) : Int × List Int × Int := if (takeN xs).2.2 ≠ 0 then (0, xs, (takeN xs).2.2) else ((takeN xs).1, xs.drop (takeN xs).2.1.toNat, 0)
theorem numR_err {xs : List Int} {e : Int} (h : takeN xs = (0, 0, e)) (he : e ≠ 0) : numR xs = (0, xs, e) := by unfold numR; rw [h]; simp [he]
theorem numR_ok {xs : List Int} {m k : Nat} (h : takeN xs = ((m : Int), (k : Int), 0)) : numR xs = ((m : Int), xs.drop k, 0) := by unfold numR; rw [h]; simp
def bytR (xs : List Int) (q : Int) : List Int × List Int × Int := if (takeB xs q).2.2 ≠ 0 then ([], xs, (takeB xs q).2.2) else ((takeB xs q).1, xs.drop (takeB xs q).2.1.toNat, 0)
theorem bytR_err {xs : List Int} {q : Int} (he : (takeB xs q).2.2 ≠ 0) : bytR xs q = ([], xs, (takeB xs q).2.2) := by unfold bytR; rw [if_pos he]
theorem bytR_ok {xs : List Int} {q : Int} (he : (takeB xs q).2.2 = 0) : bytR xs q = ((takeB xs q).1, xs.drop (takeB xs q).2.1.toNat, 0) := by unfold bytR; rw [if_neg (by simpa using he)]

set_option maxHeartbeats 2000000 in
theorem number_calls (g : Nat) (A : Option Addr) (n c : Nat) (xs : List Int) (w : World) (hg : w.heap[g]? = some (.cells #[.slice A n c, .int .i64 0] 47 (0, 0))) (hc : n ≤ c) (hr : ReadsInt w .u8 A n xs) (hold : ∀ i, i < n → ∃ ad, A = some ad ∧ ad.block < g) (hB : Bytes xs) (hl : n ≤ 140737488355000) :
    Calls Try.prog 26 #[.pointer (some ⟨g, 0, none⟩), .int .u64 18446744073709551615, .int .i64 18] w fun e w' => e = .returned (.int .u64 (numR xs).1) ∧ RdAt w' g (numR xs).2.1 (numR xs).2.2 ∧ Chg (fun k => k = g) w w' := by
  have HR := Aside0.mk hr
  have HG := Aside0.mk hg
  have HO := Aside0.mk hold
  have hglt : g ≤ w.heap.size := Nat.le_of_lt (blk_lt hg)
  have hc0 : w.cell? ⟨g, 0, none⟩ = some (.slice A n c) := cell_blk hg rfl
  have hc1 : w.cell? ⟨g, 1, none⟩ = some (.int .i64 0) := cell_blk hg rfl
  have hz0 := blk_frozen hg 0
  have hz1 := blk_frozen hg 1
  have hxn := hr.1
  clear hr hg hold
  go_enter Try.func26, Try.ntmps26
  rcases takeN_cases hB with hT | hT | ⟨m, k, hT, hm, hk1, hk2⟩
  · have HE := Aside0.mk (numR_err hT (by decide))
    have HT := Aside0.mk hT
    clear hT hxn
    go_wp2_with (go_at_call 11; go_must (refine (refTake_calls _ _ _ xs _ HR.out hB hl).mono ?_; rintro e w' ⟨rfl, hw⟩; obtain rfl : w = w' := hw.symm; rw [HT.out]))
    go_ret
    exact ⟨by rw [HE.out]; rfl, by rw [HE.out]; exact ⟨A, n, c, rd_set1 HG.out, hc, reads_chg HR.out HO.out hglt (chg_set _ _ _ _), HO.out⟩, chg_set _ _ _ _⟩
  · have HE := Aside0.mk (numR_err hT (by decide))
    have HT := Aside0.mk hT
    clear hT hxn
    go_wp2_with (go_at_call 11; go_must (refine (refTake_calls _ _ _ xs _ HR.out hB hl).mono ?_; rintro e w' ⟨rfl, hw⟩; obtain rfl : w = w' := hw.symm; rw [HT.out]))
    go_ret
    exact ⟨by rw [HE.out]; rfl, by rw [HE.out]; exact ⟨A, n, c, rd_set1 HG.out, hc, reads_chg HR.out HO.out hglt (chg_set _ _ _ _), HO.out⟩, chg_set _ _ _ _⟩
  · have HE := Aside0.mk (numR_ok hT)
    have HT := Aside0.mk hT
    have hk3 : k ≤ n := by omega
    obtain ⟨A', hcut, hrd, hod⟩ := run_cut_old (A := A) (n := n) (c := c) k hk3
    have HRD := Aside0.mk (hrd w xs hc HR.out)
    have HO2 := Aside0.mk (hod g HO.out)
    clear hT hxn hrd hod
    go_wp2_with (go_at_call 11; go_must (refine (refTake_calls _ _ _ xs _ HR.out hB hl).mono ?_; rintro e w' ⟨rfl, hw⟩; obtain rfl : w = w' := hw.symm; rw [HT.out]))
    go_ret
    exact ⟨by rw [HE.out]; rfl, by rw [HE.out]; exact ⟨A', n - k, c - k, rd_set0 HG.out, by omega, reads_chg HRD.out HO2.out hglt (chg_set _ _ _ _), HO2.out⟩, chg_set _ _ _ _⟩

set_option maxHeartbeats 2000000 in
theorem bytes5_calls (g : Nat) (A : Option Addr) (n c : Nat) (xs : List Int) (q : Int) (w : World) (hg : w.heap[g]? = some (.cells #[.slice A n c, .int .i64 0] 47 (0, 0))) (hc : n ≤ c) (hr : ReadsInt w .u8 A n xs) (hold : ∀ i, i < n → ∃ ad, A = some ad ∧ ad.block < g) (hB : Bytes xs) (hl : n ≤ 140737488355000) (hq0 : -9223372036854775808 ≤ q) (hq1 : q ≤ 9223372036854775807) :
    Calls Try.prog 27 #[.pointer (some ⟨g, 0, none⟩), .int .i64 q] w fun e w' => ∃ v, e = .returned v ∧ OwnB w' w.heap.size v (bytR xs q).1 ∧ RdAt w' g (bytR xs q).2.1 (bytR xs q).2.2 ∧ Chg (fun k => k = g) w w' := by
  have HR := Aside0.mk hr
  have HG := Aside0.mk hg
  have HO := Aside0.mk hold
  have hglt : g ≤ w.heap.size := Nat.le_of_lt (blk_lt hg)
  have hc0 : w.cell? ⟨g, 0, none⟩ = some (.slice A n c) := cell_blk hg rfl
  have hc1 : w.cell? ⟨g, 1, none⟩ = some (.int .i64 0) := cell_blk hg rfl
  have hz0 := blk_frozen hg 0
  have hz1 := blk_frozen hg 1
  have hxn := hr.1
  clear hr hg hold
  go_enter Try.func27, Try.ntmps27
  by_cases h0 : (takeB xs q).2.2 = 0
  · have hk := takeB_used (xs := xs) (most := q) hB
    obtain ⟨k, hkk⟩ : ∃ k : Nat, (takeB xs q).2.1 = (k : Int) := ⟨_, (Int.toNat_of_nonneg hk.1).symm⟩
    have hk3 : k ≤ n := by omega
    have HE := Aside0.mk (show bytR xs q = ((takeB xs q).1, xs.drop k, 0) by rw [bytR_ok h0, hkk, Int.toNat_natCast])
    have HK := Aside0.mk hkk
    have H0 := Aside0.mk h0
    obtain ⟨A', hcut, hrd, hod⟩ := run_cut_old (A := A) (n := n) (c := c) k hk3
    have HRD := Aside0.mk (hrd w xs hc HR.out)
    have HO2 := Aside0.mk (hod g HO.out)
    clear h0 hxn hrd hod hk hkk
    go_wp2_with (go_at_call 20; go_must (refine (refTakeBytes_calls A n c xs q _ HR.out hc hB hl hq0 hq1).mono ?_; rintro e w1 ⟨v, rfl, ho, hb⟩; rw [HK.out, H0.out]; have hd0 := (hb.cell (p := ⟨g, 0, none⟩) (World.block_lt_of_cell? _ _ hc0)).trans hc0; have hd1 := (hb.cell (p := ⟨g, 1, none⟩) (World.block_lt_of_cell? _ _ hc1)).trans hc1; have HO1 := Aside0.mk ho; have hx0 := blk_frozen (blk_below HG.out hb) 0; have hx1 := blk_frozen (blk_below HG.out hb) 1; have HB1 := Aside0.mk hb; clear ho hb))
    go_ret
    exact ⟨_, rfl, by rw [HE.out]; exact own_chg HO1.out (blk_below HG.out HB1.out) (by decide) (chg_set _ _ _ _), by rw [HE.out]; exact ⟨A', n - k, c - k, rd_set0 (blk_below HG.out HB1.out), by omega, reads_chg (HRD.out.below HB1.out) HO2.out (Nat.le_trans hglt HB1.out.size) (chg_set _ _ _ _), HO2.out⟩, chg_trans (Chg.of_below HB1.out) (chg_set _ _ _ _)⟩
  · have HE := Aside0.mk (bytR_err h0)
    have h1 : ((takeB xs q).2.2 != 0) = true := by simp [h0]
    clear h0 hxn
    go_wp2_with (go_at_call 20; go_must (refine (refTakeBytes_calls A n c xs q _ HR.out hc hB hl hq0 hq1).mono ?_; rintro e w1 ⟨v, rfl, ho, hb⟩; have hd0 := (hb.cell (p := ⟨g, 0, none⟩) (World.block_lt_of_cell? _ _ hc0)).trans hc0; have hd1 := (hb.cell (p := ⟨g, 1, none⟩) (World.block_lt_of_cell? _ _ hc1)).trans hc1; have hx0 := blk_frozen (blk_below HG.out hb) 0; have hx1 := blk_frozen (blk_below HG.out hb) 1; have HB1 := Aside0.mk hb; clear ho hb))
    go_ret
    exact ⟨_, rfl, by rw [HE.out]; exact own_nil _ _ _ _, by rw [HE.out]; exact ⟨A, n, c, rd_set1 (blk_below HG.out HB1.out), hc, reads_chg (HR.out.below HB1.out) HO.out (Nat.le_trans hglt HB1.out.size) (chg_set _ _ _ _), HO.out⟩, chg_trans (Chg.of_below HB1.out) (chg_set _ _ _ _)⟩
end Go.Proofs.Ytcgmfbefikpkbaa
