/-
  The walk of or.
-/
import Derived.Test.YtjlhbaohippidaaNfOR
namespace Go.Proofs.Ytjlhbaohippidaa
open Go.RowKit Go.Proofs.YtjlhbaohippidaaW.PrintWords Go.RegionInvYtjlhbaohippidaa Go.RegionEYtjlhbaohippidaa

def orN (f h : Int × List Int) : Int × List Int := (max f.1 h.1, (List.range (max f.2.length h.2.length)).map fun j => max (atP f.2 (j : Nat)) (atP h.2 (j : Nat)))
def orK (ks ks' : List Int) (j : Nat) : List Int := (List.range j).map fun j => max (atP ks (j : Nat)) (atP ks' (j : Nat))
theorem orK_succ (ks ks' : List Int) (j : Nat) : orK ks ks' (j + 1) = orK ks ks' j ++ [max (atP ks (j : Nat)) (atP ks' (j : Nat))] := by
  unfold orK; rw [List.range_succ, List.map_append]; rfl
theorem orK_len (ks ks' : List Int) (j : Nat) : (orK ks ks' j).length = j := by simp [orK]
/-- The boxes of the two arguments and of the result. -/
structure OrB (w wr : World) (c c' : Int) (B B' : Value) : Prop where
  x2 : wr.heap[w.heap.size]? = some (.cells #[.int .i64 c, B] 52 (0, 0))
  x3 : wr.heap[w.heap.size + 1]? = some (.cells #[.int .i64 c', B'] 52 (0, 0))
  x4 : wr.heap[w.heap.size + 1 + 1]? = some (.cells #[.int .i64 0, .slice none 0 0] 52 (0, 0))
theorem OrB.step {w wr w' : World} {c c' : Int} {B B' : Value} {S : Nat → Prop} (h : OrB w wr c c' B B') (hc : Chg S wr w') (hS : ∀ k, S k → w.heap.size + 1 + 1 + 1 ≤ k) : OrB w w' c c' B B' :=
  ⟨hc.still h.x2 fun k => by have := hS _ k; omega, hc.still h.x3 fun k => by have := hS _ k; omega, hc.still h.x4 fun k => by have := hS _ k; omega⟩
theorem or_next {w wr w' : World} {x : Int} {V : Value} {ys zs : List Int} {O : Nat → Prop} {o : Nat} (h : Mk2 w wr o x V ys) (ho : w.heap.size ≤ o) (hc : Chg (fun k => (fun k => V.ownBlock = some k) k ∨ (fun k => k = o) k) wr w')
    (hz : ys.length + 1 = zs.length) (hn : ∃ V', w'.heap[o]? = some (.cells #[.int .i64 x, V'] 52 (0, 0)) ∧ OwnO (o + 1) 3 1 (ys.length + 1) (nums .i64 zs) V' w' O ∧ O o) : ∃ V', Aside0 (Mk2 w w' o x V' zs) := by
  obtain ⟨V', h1, ⟨h2, -⟩, -⟩ := hn
  refine ⟨V', ⟨h1, hz ▸ h2, Chg.trans_below h.bel hc (fun k hk => ?_) h.bel.size⟩⟩
  rcases hk with hk | hk
  · have := own_base h.row _ hk
    omega
  · exact (by have : k = o := hk; omega)
set_option maxHeartbeats 4000000 in
theorem or_calls (S : Nat → Prop) (A A' : Option Addr) (n cap n' cap' : Nat) (c c' : Int) (ks ks' : List Int) (w : World) (hr : IntsS w S A n ks) (hr' : IntsS w S A' n' ks') (hl : n ≤ 1000000) (hl' : n' ≤ 1000000) :
    Calls Try.prog 52 #[.agg #[.int .i64 c, .slice A n cap], .agg #[.int .i64 c', .slice A' n' cap']] w (NfGot w (fun _ => False) (orN (c, ks) (c', ks'))) := by
  have HR := Aside0.mk (hr.mono (S' := fun k => k < w.heap.size) fun k _ h => h)
  have HR' := Aside0.mk (hr'.mono (S' := fun k => k < w.heap.size) fun k _ h => h)
  have HN := Aside0.mk hr.1.1
  have HN' := Aside0.mk hr'.1.1
  clear hr hr'
  go_enter Try.func52, Try.ntmps52
  go_upto_region 2 with (fail)
  obtain ⟨x, hx⟩ : ∃ x, x = (if c < c' then c' else c) := ⟨_, rfl⟩
  rw [← hx]
  have HXE := Aside0.mk (show x = max c c' by rw [hx]; omega)
  clear hx
  go_upto_block 0 with (fail)
  have hst : Mk2 w ((((w.alloc (.cells #[.int .i64 c, .slice A n cap] 52 (0, 0))).alloc (.cells #[.int .i64 c', .slice A' n' cap'] 52 (0, 0))).alloc (.cells #[.int .i64 0, .slice none 0 0] 52 (0, 0))).alloc (.cells #[.int .i64 x, .slice none 0 0] 52 (0, 0))) (w.heap.size + 1 + 1 + 1) x (.slice none 0 0) [] := by
    refine ⟨?_, own_nil _ _ _ _, below_alloc (below_alloc (below_alloc (below_alloc (Below.refl _ _) _) _) _) _⟩
    have := blk_new (((w.alloc (.cells #[.int .i64 c, .slice A n cap] 52 (0, 0))).alloc (.cells #[.int .i64 c', .slice A' n' cap'] 52 (0, 0))).alloc (.cells #[.int .i64 0, .slice none 0 0] 52 (0, 0))) (.cells #[.int .i64 x, .slice none 0 0] 52 (0, 0))
    simpa using this
  have hres : OrB w ((((w.alloc (.cells #[.int .i64 c, .slice A n cap] 52 (0, 0))).alloc (.cells #[.int .i64 c', .slice A' n' cap'] 52 (0, 0))).alloc (.cells #[.int .i64 0, .slice none 0 0] 52 (0, 0))).alloc (.cells #[.int .i64 x, .slice none 0 0] 52 (0, 0))) c c' (.slice A n cap) (.slice A' n' cap') := by
    refine ⟨blk_alloc (blk_alloc (box0 _ _ _) _) _, blk_alloc (blk_alloc (box1 _ _ _) _) _, blk_alloc ?_ _⟩
    have := blk_new ((w.alloc (.cells #[.int .i64 c, .slice A n cap] 52 (0, 0))).alloc (.cells #[.int .i64 c', .slice A' n' cap'] 52 (0, 0))) (.cells #[.int .i64 0, .slice none 0 0] 52 (0, 0))
    simpa using this
  have HST := Aside0.mk hst
  have HRES := Aside0.mk hres
  clear hst hres
  obtain ⟨m, hm⟩ : ∃ m : Nat, (m : Int) = (if n < n' then (n' : Int) else n) := ⟨max n n', by omega⟩
  rw [← hm]
  have HM := Aside0.mk (show m = max ks.length ks'.length by rw [HN.out, HN'.out]; omega)
  have hml : m ≤ 1000000 := by omega
  clear hm
  go_wp2
  go_loopw [20] (fun i wr => ∃ (j : Nat) (V : Value), i = .int .i64 j ∧ j ≤ m ∧ Aside0 (Mk2 w wr (w.heap.size + 1 + 1 + 1) x V (orK ks ks' j)) ∧ Aside0 (OrB w wr c c' (.slice A n cap) (.slice A' n' cap'))) (fun i _ => m - (intOf i).toNat)
  case atStart => exact ⟨0, _, rfl, Nat.zero_le _, HST, HRES⟩
  case round =>
    clear HST HRES
    obtain ⟨j, V, rfl, hj, HST, HRES⟩ := hrel
    by_cases hlt : j < m
    · go_upto_region 5 with (fail)
      refine or_region wr w.heap.size (w.heap.size + 1 + 1 + 1) c c' x (j : Nat) A A' n cap n' cap' V ks ks' (orK ks ks' j) HRES.out.x2 HRES.out.x3 HST.out.box HST.out.row ((HR.out).same fun k hk hz => HST.out.bel.block k hk) ((HR'.out).same fun k hk hz => HST.out.bel.block k hk) (by omega) (by omega) (by rw [orK_len]; omega) ?_
      intro w' u24 u32 u33 u34 v12 O12 hchg hnew hown
      have hb := HST.out.row
      have HRES' := Aside0.mk (HRES.out.step hchg fun k hk => by
        rcases hk with hk | hk
        · have := own_base hb _ hk
          omega
        · have : k = w.heap.size + 1 + 1 + 1 := hk
          omega)
      rw [← orK_succ] at hnew
      obtain ⟨V', HST'⟩ := or_next HST.out (by omega) hchg (by rw [orK_len, orK_len]) hnew
      clear hchg hnew hown hb HST HRES
      go_wp2
      go_roundw
      case rel => exact ⟨j + 1, V', by go_num, by omega, HST', HRES'⟩
      case measure => (simp [intOf]; try omega)
    · obtain rfl : j = m := by omega
      have hlt' : decide ((j : Int) < j) = false := by simp
      obtain ⟨d0, d1, -, -⟩ := row2 HST.out.box
      obtain ⟨f0, f1, g0, g1⟩ := row2 HRES.out.x4
      obtain ⟨A0, L, c0, rfl, hL⟩ := own_slice' HST.out.row
      have HL := Aside0.mk hL
      have hfin : L ≤ c0 ∧ IntsS wr (fun b => w.heap.size + 1 + 1 + 1 + 1 ≤ b) A0 L (orK ks ks' j) := by
        obtain ⟨A9, c9, hv, hcap, hints⟩ := IntsS.of_own HST.out.row
        rw [← HL.out] at hv hcap hints
        injection hv with h1 h2 h3
        subst h1; subst h3
        exact ⟨hcap, hints⟩
      have HF := Aside0.mk hfin
      clear hfin hL
      go_wp2
      have hch := chg_set2 wr (w.heap.size + 1 + 1) (.int .i64 x) (.slice A0 L c0)
      refine bodyPost_ret (results_c rfl _ _ (w.heap.size + 1 + 1) 52 #[.int .i64 x, .slice A0 L c0] (0, 0) _ rfl (set2 HRES.out.x4) Try.underlying52 rfl (by kernel_rfl)) rfl ?_
      have h1 := HF.out
      refine ⟨A0, L, c0, ?_, h1.1, ?_, Chg.trans_below HST.out.bel hch (fun _ e => by omega) HST.out.bel.size⟩
      · show Ending.returned (.agg #[.int .i64 x, .slice A0 L c0]) = Ending.returned (.agg #[.int .i64 (max c c'), .slice A0 L c0])
        rw [HXE.out]
      · show IntsS _ _ A0 L (orK ks ks' (max ks.length ks'.length))
        rw [← HM.out]
        exact (h1.2.same fun b hb hz => hch.block b hz (by omega)).mono fun b hb _ => .inr (by omega)
end Go.Proofs.Ytjlhbaohippidaa
