/-
  The walk of of: the sum of a good level.
-/
import Derived.Test.YtjlhbaohippidaaNfFR
namespace Go.Proofs.Ytjlhbaohippidaa
open Go.RowKit Go.Proofs.YtjlhbaohippidaaW.PrintWords Go.RegionInvYtjlhbaohippidaa Go.RegionEYtjlhbaohippidaa

abbrev ofW (w : World) (A : Option Addr) (m c : Nat) (k n : Int) : World := (w.alloc (.cells #[.int .i64 k, .int .i64 n, .slice A m c] 24 (0, 0))).alloc (.cells #[.int .i64 0, .slice none 0 0] 52 (0, 0))
theorem got_box {w w1 w' : World} {S T : Nat → Prop} {f : Nf} {O : Nat → Prop} (hb1 : Below w.heap.size w w1) (h : NfBox (w.heap.size + 1) T f w' O) (hc : Chg (fun k => (fun k => k = w.heap.size + 1) k ∨ (fun _ => False) k) w1 w') (hT : ∀ k, T k → S k) (hO : ∀ k, O k → w.heap.size ≤ k) :
    ∃ A n cap, w'.heap[w.heap.size + 1]? = some (.cells #[.int .i64 f.1, .slice A n cap] 52 (0, 0)) ∧ NfGot w S f (.returned (.agg #[.int .i64 f.1, .slice A n cap])) w' := by
  obtain ⟨A, n, cap, hb, -, h1, h2⟩ := h
  refine ⟨A, n, cap, hb, A, n, cap, rfl, h1, h2.mono fun b hb _ => hb.imp (hT b) fun h => hO b h.1, Chg.trans_below hb1 hc (fun k h => ?_) hb1.size⟩
  rcases h with h | h
  · have : k = w.heap.size + 1 := h
    omega
  · exact h.elim
theorem lit_kid {w : World} {S : Nat → Prop} {gb off : Nat} {i : Nat} {a b : Int} {A' : Option Addr} {n' c' : Nat} (h : CellsAt w S (some ⟨gb, off, none⟩) i a b A' n' c') :
    w.cell? ⟨gb, off + i * 3, none⟩ = some (.int .i64 a) ∧ w.cell? ⟨gb, off + i * 3 + 1, none⟩ = some (.int .i64 b) ∧ w.cell? ⟨gb, off + i * 3 + 2, none⟩ = some (.slice A' n' c') := by
  obtain ⟨ad, e, _, _, h1, h2, h3⟩ := h
  obtain rfl := Option.some.inj e
  simpa only [add_flat, Nat.add_assoc] using (⟨h1, h2, h3⟩ : _ ∧ _ ∧ _)
theorem kid_ptr {w : World} {S : Nat → Prop} {A : Option Addr} {i : Nat} {a b : Int} {A' : Option Addr} {n' c' : Nat} (h : CellsAt w S A i a b A' n' c') : ∃ gb off, A = some ⟨gb, off, none⟩ ∧ S gb := by
  obtain ⟨⟨gb, off, sp⟩, e, hs, hsp, _⟩ := h
  obtain rfl : sp = none := hsp
  exact ⟨gb, off, e, hs⟩
theorem fix_not {w : World} {k g : Nat} {E : Nat → Nat → Prop} (h : ¬ Fix w E k) (hE : ∀ i, E i k → k = g) (hg : g ≤ w.heap.size) : g ≤ k := by
  by_cases hk : k < w.heap.size
  · by_cases e : ∃ i, E i k
    · obtain ⟨i, e⟩ := e; exact Nat.le_of_eq (hE i e).symm
    · exact absurd ⟨hk, fun i h => e ⟨i, h⟩⟩ h
  · omega
theorem rep_set (i : Nat) : ((List.replicate (i + 1) (Value.int .i64 (-1))).toArray).setIfInBounds i (.int .i64 0) = (nums .i64 (List.replicate i (-1) ++ [0])).toArray := by
  apply Array.ext
  · simp [nums]
  · intro j h1 h2
    simp only [List.setIfInBounds_toArray, List.getElem_toArray, List.getElem_set, nums, List.map_append, List.map_replicate]
    by_cases e : i = j
    · subst e; simp
    · have : j < i := by simp at h1; omega
      rw [if_neg e, List.getElem_append_left (by simpa using this)]
      simp
theorem ints_lit {w : World} {g : Nat} {ks : List Int} {t : TypeId} (h : w.heap[g]? = some (.cells (nums .i64 ks).toArray t (0, 0))) (hl : ks.length ≤ 9223372036854775807) : IntsS w (fun b => b = g) (some ⟨g, 0, none⟩) ks.length ks := by
  refine ⟨⟨rfl, hl, fun _ => ⟨_, rfl, fun j hj => ?_⟩⟩, fun _ => ⟨_, rfl, rfl⟩⟩
  rw [add_flat, cell_of_row _ _ _ _ _ _ h]
  simp [nums, List.getElem?_eq_getElem hj, List.getD_eq_getElem?_getD]
set_option maxHeartbeats 4000000 in
theorem of_calls (S : Nat → Prop) (Av : Option Addr) (cv : Nat) (fs : List Nf) (hfs : ∀ f ∈ fs, NfOk f) (hlen : fs.length ≤ 9223372036854775807) (N : Nat) : ∀ (l : Lv), SizeOf.sizeOf l < N → Good l → ∀ (A : Option Addr) (c : Nat) (w : World), LvIn w w.heap.size A c l → NfsS w S Av fs → (∀ k, S k → k < w.heap.size) →
    Calls Try.prog 34 #[lvV A c l, .slice Av fs.length cv] w (NfGot w S (ofP fs l)) := by
  induction N with
  | zero => intro l h; omega
  | succ N ih =>
    rintro ⟨lk, ln, ks⟩ hN hgood A c w hin hvs hS
    have IH := Aside0.mk ih
    have HIN := Aside0.mk hin
    have HGOOD := Aside0.mk hgood
    have HVS := Aside0.mk hvs
    have HS := Aside0.mk hS
    have HFS := Aside0.mk hfs
    clear ih hin hgood hvs hS hfs
    unfold lvV
    simp only [Lv.kind, Lv.num, Lv.kids]
    have hb1 : Below w.heap.size w (ofW w A ks.length c lk ln) := below_alloc (below_alloc (Below.refl _ _) _) _
    have hx2 : (ofW w A ks.length c lk ln).heap[w.heap.size]? = some (.cells #[.int .i64 lk, .int .i64 ln, .slice A ks.length c] 24 (0, 0)) := box0 w _ _
    have hx4 : (ofW w A ks.length c lk ln).heap[w.heap.size + 1]? = some (.cells #[.int .i64 0, .slice none 0 0] 52 (0, 0)) := box1 w _ _
    have HB1 := Aside0.mk hb1
    have HX2 := Aside0.mk hx2
    have HX4 := Aside0.mk hx4
    have hz1 : (ofW w A ks.length c lk ln).heap.size = w.heap.size + 2 := by simp [ofW]
    have HZ1 := Aside0.mk hz1
    clear hb1 hx2 hx4 hz1
    rcases good_cases HGOOD.out with ⟨rfl, rfl, h0, h1⟩ | ⟨rfl, rfl, h0, h1⟩ | ⟨rfl, x, rfl, h0, h1, hx⟩ | ⟨rfl, x, y, rfl, hx, hy⟩
    · -- a number
      rw [ofP_num]
      obtain ⟨d0, d1, -, -⟩ := row2 HX4.out
      clear HGOOD
      go_enter Try.func34, Try.ntmps34
      go_wp2
      refine bodyPost_ret (results_c rfl _ _ (w.heap.size + 1) 52 #[.int .i64 ln, .slice none 0 0] (0, 0) _ rfl (box1 w _ _) Try.underlying52 rfl (by kernel_rfl)) rfl ?_
      exact ⟨none, 0, 0, rfl, Nat.le_refl _, IntsS.nil _ _, below_alloc (below_alloc (Below.refl _ _) _) _⟩
    · -- a variable
      rw [ofP_var]
      obtain ⟨i, rfl⟩ := Int.eq_ofNat_of_zero_le h0
      clear HGOOD
      by_cases hi : i < fs.length
      · have HE := Aside0.mk (show varN fs i = fs[i] by unfold varN; rw [if_pos (by omega)]; simp [hi])
        obtain ⟨gb, off, A', c', rfl, hgS, hc0, hc1, hcap, hints⟩ := HVS.out i fs[i] (List.getElem?_eq_getElem hi)
        obtain ⟨f, hf⟩ : ∃ f, f = fs[i] := ⟨_, rfl⟩
        rw [← hf] at hc0 hc1 hcap hints HE
        have key : ∀ j, ((w.alloc (.cells #[.int .i64 2, .int .i64 i, .slice A 0 c] 24 (0, 0))).alloc (.cells #[.int .i64 0, .slice none 0 0] 52 (0, 0))).cell? ⟨gb, j, none⟩ = w.cell? ⟨gb, j, none⟩ := fun j => cell_same (HB1.out.block gb (HS.out gb hgS))
        have hd0 := (key _).trans hc0
        have hd1 := (key _).trans hc1
        clear hc0 hc1 key
        obtain ⟨m', hm'⟩ : ∃ m', m' = f.2.length := ⟨_, rfl⟩
        rw [← hm'] at hd1 hcap hints
        have HI := Aside0.mk hints
        have HF := Aside0.mk hf
        clear hf hm' hints
        go_enter Try.func34, Try.ntmps34
        go_wp2
        refine bodyPost_ret (results_c rfl _ _ (w.heap.size + 1) 52 #[.int .i64 f.1, .slice A' m' c'] (0, 0) _ rfl (box1 w _ _) Try.underlying52 rfl (by kernel_rfl)) rfl ?_
        rw [HE.out]
        have hb := below_alloc (below_alloc (Below.refl w.heap.size w) (.cells #[.int .i64 2, .int .i64 i, .slice A 0 c] 24 (0, 0))) (.cells #[.int .i64 f.1, .slice A' m' c'] 52 (0, 0))
        exact ⟨A', m', c', rfl, hcap, (HI.out.later hb).mono fun _ h _ => .inl h, hb⟩
      · have HE := Aside0.mk (show varN fs i = (0, List.replicate i (-1) ++ [0]) by unfold varN; rw [if_neg (by omega)]; simp)
        go_enter Try.func34, Try.ntmps34
        go_upto_region 11 with (first
          | (go_at_call 53; refine (repeat_calls (-1) (i + 1) (w.heap.size + 1 + 1) _ (by have := blk_new (ofW w A 0 c 2 i) (.cells #[.int .i64 (-1)] 3 (0, 0)); simpa using this) (by omega) (by omega)).mono ?_; rintro e w5 ⟨g5, rfl, hg5, hgs, hb5⟩; have HG5 := Aside0.mk hg5; have HGS := Aside0.mk hgs; have HB5 := Aside0.mk hb5; clear hg5 hgs hb5))
        have hz5 := HGS.out
        have hbs : Below w.heap.size w (((w.alloc (.cells #[.int .i64 2, .int .i64 i, .slice A 0 c] 24 (0, 0))).alloc (.cells #[.int .i64 0, .slice none 0 0] 52 (0, 0))).alloc (.cells #[.int .i64 (-1)] 3 (0, 0))) := below_alloc (below_alloc (below_alloc (Below.refl _ _) _) _) _
        have HBB := Aside0.mk (below_then hbs hbs.size HB5.out)
        have hg5 : w.heap.size + 3 ≤ g5 := by simp at hz5; omega
        have hne : g5 ≠ w.heap.size + 1 := by omega
        have hne2 : w.heap.size + 1 ≠ g5 := by omega
        obtain ⟨p0, p1, p2, -, -, -⟩ := row3 (blk_below (blk_alloc HX2.out (.cells #[.int .i64 (-1)] 3 (0, 0))) HB5.out)
        have HX45 := Aside0.mk (blk_below (blk_alloc HX4.out (.cells #[.int .i64 (-1)] 3 (0, 0))) HB5.out)
        obtain ⟨d0, d1, e0, e1⟩ := row2 HX45.out
        have hgi : w5.cell? ⟨g5, i, none⟩ = some (.int .i64 (-1)) := by
          rw [cell_of_row _ _ _ _ _ _ HG5.out]
          simp
        have hfi := blk_frozen HG5.out i
        clear hz5 hbs
        go_wp2
        refine bodyPost_ret (results_c rfl _ _ (w.heap.size + 1) 52 #[.int .i64 0, .slice (some ⟨g5, 0, none⟩) (i + 1) (i + 1)] (0, 0) _ rfl (set2 (((chg_set w5 g5 i _).block _ (blk_lt HX45.out) hne2).trans HX45.out)) Try.underlying52 rfl (by kernel_rfl)) rfl ?_
        rw [HE.out]
        have hrow : (w5.setCell ⟨g5, i, none⟩ (.int .i64 0)).heap[g5]? = some (.cells (nums .i64 (List.replicate i (-1) ++ [0])).toArray 3 (0, 0)) := blk_put HG5.out i _ (rep_set i)
        have hch := chg_set2 (w5.setCell ⟨g5, i, none⟩ (.int .i64 0)) (w.heap.size + 1) (.int .i64 0) (.slice (some ⟨g5, 0, none⟩) (i + 1) (i + 1))
        have hch0 := chg_set w5 g5 i (.int .i64 0)
        refine ⟨some ⟨g5, 0, none⟩, i + 1, i + 1, rfl, Nat.le_refl _, ?_, Chg.trans_below (Chg.trans_below HBB.out hch0 (fun _ e => by omega) HBB.out.size) hch (fun _ e => by omega) (Nat.le_trans HBB.out.size hch0.size)⟩
        have := ints_lit ((hch.block g5 (blk_lt hrow) hne).trans hrow) (by simp; omega)
        simpa using this.mono fun b (hb : b = g5) _ => .inr (by omega)
    · -- so much more
      rw [ofP_succ]
      obtain ⟨A', c', hcs, hxin⟩ := HIN.out.kid 0 x rfl
      obtain ⟨gb, off, rfl, hgb⟩ := kid_ptr hcs
      have hc := lit_kid (hcs.same (w' := ofW w (some ⟨gb, off, none⟩) [x].length c 3 ln) fun k hk _ => HB1.out.block k hk)
      have HOK := Aside0.mk (ofP_ok HFS.out hx)
      have HXIN := Aside0.mk hxin
      have HC := Aside0.mk hc
      have HX := Aside0.mk hx
      clear hcs hc hx hxin HGOOD
      go_enter Try.func34, Try.ntmps34
      go_upto_region 5 with (fail)
      refine of5_region (ofW w (some ⟨gb, off, none⟩) [x].length c 3 ln) w.heap.size 3 ln gb off 1 c S Av fs.length cv (.int .i64 0) (.slice none 0 0) x.kind x.num A' x.kids.length c' (ofP fs x) HX2.out HX4.out hgb HS.out HC.out.1 HC.out.2.1 HC.out.2.2 (fun w5 hw5 hz5 => ?_) (by decide) (by omega) h1 HOK.out ?_
      · have hkid := kid_small (k := 3) (n := ln) (ks := [x]) (i := 0) (x := x) rfl
        exact (IH.out x (by omega) HX.out A' c' w5 ((LvS.all ((HXIN.out.same fun k hk _ => (hw5 k hk).trans (HB1.out.block k hk))))) ((HVS.out.same fun k hk _ => (hw5 k (HS.out k hk)).trans (HB1.out.block k (HS.out k hk)))) (fun k hk => by have := HS.out k hk; have := HZ1.out; omega)).mono fun e w6 h => h
      · intro w' u20 u23 O5 v9 O9 hch _ _ hbox ho9
        obtain ⟨A6, n6, cap6, hb6, hgot⟩ := got_box (S := S) HB1.out hbox hch (fun _ h => h.elim) (fun k hk => Nat.le_of_succ_le (fix_not (ho9 k hk).2 (fun i h => h.elim And.right fun h => h.2.elim) (by rw [HZ1.out]; omega)))
        have HG := Aside0.mk hgot
        have HB6 := Aside0.mk hb6
        clear hch hbox ho9 hb6 hgot
        go_wp2
        exact bodyPost_ret (results_c rfl _ _ (w.heap.size + 1) 52 #[.int .i64 (plusN ln (ofP fs x)).1, .slice A6 n6 cap6] (0, 0) _ rfl HB6.out Try.underlying52 rfl (by kernel_rfl)) rfl HG.out
    · -- the greater one of two
      rw [ofP_max]
      obtain ⟨A', c', hcs, hxin⟩ := HIN.out.kid 0 x rfl
      obtain ⟨A'', c'', hcs', hyin⟩ := HIN.out.kid 1 y rfl
      obtain ⟨gb, off, rfl, hgb⟩ := kid_ptr hcs
      have hc := lit_kid (hcs.same (w' := ofW w (some ⟨gb, off, none⟩) [x, y].length c 4 ln) fun k hk _ => HB1.out.block k hk)
      have hc' := lit_kid (hcs'.same (w' := ofW w (some ⟨gb, off, none⟩) [x, y].length c 4 ln) fun k hk _ => HB1.out.block k hk)
      have HOK := Aside0.mk (ofP_ok HFS.out hx)
      have HOK' := Aside0.mk (ofP_ok HFS.out hy)
      have HXIN := Aside0.mk hxin
      have HYIN := Aside0.mk hyin
      have HC := Aside0.mk hc
      have HC' := Aside0.mk hc'
      have HX := Aside0.mk hx
      have HY := Aside0.mk hy
      clear hcs hc hx hxin hcs' hc' hy hyin HGOOD
      go_enter Try.func34, Try.ntmps34
      go_upto_region 7 with (fail)
      refine of7_region (ofW w (some ⟨gb, off, none⟩) [x, y].length c 4 ln) w.heap.size 4 ln gb off c S Av fs.length cv (.int .i64 0) (.slice none 0 0) x.kind x.num A' x.kids.length c' (ofP fs x) y.kind y.num A'' y.kids.length c'' (ofP fs y) HX2.out HX4.out hgb HS.out HC.out.1 HC.out.2.1 HC.out.2.2 HC'.out.1 HC'.out.2.1 HC'.out.2.2 (fun w5 hw5 hz5 => ?_) (fun w5 hw5 hz5 => ?_) HOK.out HOK'.out ?_
      · have hkid := kid_small (k := 4) (n := ln) (ks := [x, y]) (i := 0) (x := x) rfl
        exact (IH.out x (by omega) HX.out A' c' w5 ((LvS.all ((HXIN.out.same fun k hk _ => (hw5 k hk).trans (HB1.out.block k hk))))) ((HVS.out.same fun k hk _ => (hw5 k (HS.out k hk)).trans (HB1.out.block k (HS.out k hk)))) (fun k hk => by have := HS.out k hk; have := HZ1.out; omega)).mono fun e w6 h => h
      · have hkid := kid_small (k := 4) (n := ln) (ks := [x, y]) (i := 1) (x := y) rfl
        exact (IH.out y (by omega) HY.out A'' c'' w5 ((LvS.all ((HYIN.out.same fun k hk _ => (hw5 k hk).trans (HB1.out.block k hk))))) ((HVS.out.same fun k hk _ => (hw5 k (HS.out k hk)).trans (HB1.out.block k (HS.out k hk)))) (fun k hk => by have := HS.out k hk; have := HZ1.out; omega)).mono fun e w6 h => h
      · intro w' u31 u37 u38 O6 O5 v9 O9 hch _ _ _ _ hbox ho9
        obtain ⟨A6, n6, cap6, hb6, hgot⟩ := got_box (S := S) HB1.out hbox hch (fun _ h => h.elim) (fun k hk => Nat.le_of_succ_le (fix_not (ho9 k hk).2 (fun i h => h.elim And.right fun h => h.2.elim) (by rw [HZ1.out]; omega)))
        have HG := Aside0.mk hgot
        have HB6 := Aside0.mk hb6
        clear hch hbox ho9 hb6 hgot
        go_wp2
        exact bodyPost_ret (results_c rfl _ _ (w.heap.size + 1) 52 #[.int .i64 (orN (ofP fs x) (ofP fs y)).1, .slice A6 n6 cap6] (0, 0) _ rfl HB6.out Try.underlying52 rfl (by kernel_rfl)) rfl HG.out
end Go.Proofs.Ytjlhbaohippidaa
