/-
  The walks of sound: its visit, and walk over it.
-/
import Derived.Test.YtjlhbaohippidaaLvA
namespace Go.Proofs.Ytjlhbaohippidaa
open Go.RowKit Go.Proofs.YtjlhbaohippidaaW.PrintWords Go.RegionInvYtjlhbaohippidaa

theorem chg_set (w : World) (g j : Nat) (v : Value) : Chg (fun k => k = g) w (w.setCell ⟨g, j, none⟩ v) :=
  ⟨rfl, rfl, rfl, by simp [World.setCell], fun i _ hne => Below.heap_setCell w ⟨g, j, none⟩ v i hne⟩
theorem chg_trans {S : Nat → Prop} {a w w' : World} (h : Chg S a w) (k : Chg S w w') : Chg S a w' :=
  ⟨k.os.trans h.os, k.tape.trans h.tape, k.output.trans h.output, Nat.le_trans h.size k.size, fun i hi hs => (k.block i (Nat.lt_of_lt_of_le hi h.size) hs).trans (h.block i hi hs)⟩
theorem chg_alloc (S : Nat → Prop) (w : World) (o : Obj) : Chg S w (w.alloc o) := Chg.of_below ((Below.refl _ _).alloc (Nat.le_refl _) _)
theorem chg_drewN {S : Nat → Prop} {w w' : World} (h : Chg S w w') (n : Nat) : Chg S w (w'.drewN n) := ⟨h.os, h.tape, h.output, h.size, h.block⟩
/-- A box of one number. -/
def NumAt (w : World) (g : Nat) (s : Int) : Prop := w.heap[g]? = some (.cells #[.int .i64 s] 3 (0, 0))
theorem NumAt.cell {w : World} {g : Nat} {s : Int} (h : NumAt w g s) : w.cell? ⟨g, 0, none⟩ = some (.int .i64 s) := by
  rw [cell_of_row w g 0 _ 3 (0, 0) h]; rfl
theorem NumAt.set {w : World} {g : Nat} {s : Int} (h : NumAt w g s) (x : Int) : NumAt (w.setCell ⟨g, 0, none⟩ (.int .i64 x)) g x := blk_put h 0 _ rfl
theorem NumAt.below {w w' : World} {g : Nat} {s : Int} (h : NumAt w g s) (hb : Below w.heap.size w w') : NumAt w' g s := blk_below h hb
theorem NumAt.alloc {w : World} {g : Nat} {s : Int} (h : NumAt w g s) (o : Obj) : NumAt (w.alloc o) g s := blk_alloc h o

def sndF (l : Lv) (d s : Int) : Int × Int := if 1000 < s + 1 ∨ 256 < d ∨ rightP l 1099511627776 1000 = false then (1, s + 1) else (0, s + 1)
theorem sndF_bad {l : Lv} {d s : Int} (h : 1000 < s + 1 ∨ 256 < d ∨ rightP l 1099511627776 1000 = false) : sndF l d s = (1, s + 1) := if_pos h
theorem sndF_ok {l : Lv} {d s : Int} (h : ¬ (1000 < s + 1 ∨ 256 < d ∨ rightP l 1099511627776 1000 = false)) : sndF l d s = (0, s + 1) := if_neg h

def VisitPost (w : World) (g : Nat) (r : Int × Int) (e : Ending) (w' : World) : Prop := e = .returned (.int .i64 r.1) ∧ NumAt w' g r.2 ∧ Chg (fun k => k = g) w w'

set_option maxHeartbeats 2000000 in
theorem sound1_calls (A : Option Addr) (c : Nat) (l : Lv) (d s : Int) (g : Nat) (w : World) (hc : l.kids.length ≤ 9223372036854775807) (hg : NumAt w g s) (hs0 : 0 ≤ s) (hs1 : s ≤ 1000) (hd0 : 0 ≤ d) (hd1 : d ≤ 257) :
    Calls Try.prog 50 #[lvV A c l, .int .i64 d, .pointer (some ⟨g, 0, none⟩)] w (VisitPost w g (sndF l d s)) := by
  have HG := Aside0.mk hg
  have hcell := hg.cell
  have hfz := blk_frozen hg 0
  have hc2 := (hg.alloc (.cells #[.int .i64 l.kind, .int .i64 l.num, .slice A l.kids.length c] 24 (0, 0))).cell
  have HC := Aside0.mk hc
  have hglt := blk_lt hg
  have hgne : g ≠ w.heap.size := Nat.ne_of_lt hglt
  clear hg hc
  unfold lvV
  go_enter Try.func50, Try.ntmps50
  have hfin : NumAt ((w.setCell ⟨g, 0, none⟩ (.int .i64 (s + 1))).alloc (.cells #[.int .i64 l.kind, .int .i64 l.num, .slice A l.kids.length c] 24 (0, 0))) g (s + 1) := (HG.out.set _).alloc _
  have hch : Chg (fun k => k = g) w ((w.setCell ⟨g, 0, none⟩ (.int .i64 (s + 1))).alloc (.cells #[.int .i64 l.kind, .int .i64 l.num, .slice A l.kids.length c] 24 (0, 0))) := chg_trans (chg_set _ _ _ _) (chg_alloc _ _ _)
  have HF := Aside0.mk (And.intro hfin hch)
  clear hfin hch
  by_cases h1 : 1000 < s + 1
  · have HE := Aside0.mk (sndF_bad (l := l) (d := d) (.inl h1))
    go_wp2
    go_ret
    rw [HE.out]
    exact ⟨rfl, HF.out.1, HF.out.2⟩
  · by_cases h2 : 256 < d
    · have HE := Aside0.mk (sndF_bad (l := l) (s := s) (.inr (.inl h2)))
      go_wp2
      go_ret
      rw [HE.out]
      exact ⟨rfl, HF.out.1, HF.out.2⟩
    · cases hR : rightP l 1099511627776 1000 with
      | false =>
        have HE := Aside0.mk (sndF_bad (d := d) (s := s) (.inr (.inr hR)))
        have HR := Aside0.mk hR
        clear hR
        go_wp2_with (go_at_call 29; go_must (refine (right_calls A c l 1099511627776 1000 _ HC.out).mono ?_; rintro e w1 ⟨rfl, hb⟩; rw [HR.out]; have HB := Aside0.mk hb; clear hb))
        go_ret
        rw [HE.out]
        exact ⟨rfl, HF.out.1.below HB.out, chg_trans HF.out.2 (Chg.of_below HB.out)⟩
      | true =>
        have HE := Aside0.mk (sndF_ok (l := l) (d := d) (s := s) (by rw [hR]; simp; omega))
        have HR := Aside0.mk hR
        clear hR
        go_wp2_with (go_at_call 29; go_must (refine (right_calls A c l 1099511627776 1000 _ HC.out).mono ?_; rintro e w1 ⟨rfl, hb⟩; rw [HR.out]; have HB := Aside0.mk hb; clear hb))
        go_ret
        rw [HE.out]
        exact ⟨rfl, HF.out.1.below HB.out, chg_trans HF.out.2 (Chg.of_below HB.out)⟩

/-- What walk tells of a visit at the counter. -/
def Small (f : Lv → Int → Int → Int × Int) (m : Int) : Prop := ∀ l d s, 0 ≤ s → (f l d s).1 = 0 → 0 ≤ (f l d s).2 ∧ (f l d s).2 ≤ m
mutual
theorem walkP_small {f : Lv → Int → Int → Int × Int} {m : Int} (hf : Small f m) : (l : Lv) → (d s : Int) → 0 ≤ s → (walkP f l d s).1 = 0 → 0 ≤ (walkP f l d s).2 ∧ (walkP f l d s).2 ≤ m
  | .mk k n ks, d, s, h0, h => by
    by_cases h1 : (f (.mk k n ks) d s).1 = 0
    · rw [walkP_go h1] at h ⊢
      have h2 := hf _ _ _ h0 h1
      exact walkKs_small hf ks (d + 1) _ h2.1 h2.2 h
    · rw [walkP_stop h1] at h; exact absurd h h1
theorem walkKs_small {f : Lv → Int → Int → Int × Int} {m : Int} (hf : Small f m) : (ks : List Lv) → (d s : Int) → 0 ≤ s → s ≤ m → (walkKs f ks d s).1 = 0 → 0 ≤ (walkKs f ks d s).2 ∧ (walkKs f ks d s).2 ≤ m
  | [], d, s, h0, h1, _ => by rw [walkKs]; exact ⟨h0, h1⟩
  | x :: r, d, s, h0, h1, h => by
    by_cases h2 : (walkP f x d s).1 = 0
    · rw [walkKs_go h2] at h ⊢
      have h3 := walkP_small hf x d s h0 h2
      exact walkKs_small hf r d _ h3.1 h3.2 h
    · rw [walkKs_stop h2] at h; exact absurd h h2
end
theorem sndF_small' {l : Lv} {d s : Int} (hs : 0 ≤ s) (h : (sndF l d s).1 = 0) : s + 1 ≤ 1000 ∧ d ≤ 256 ∧ rightP l 1099511627776 1000 = true ∧ sndF l d s = (0, s + 1) := by
  by_cases h1 : 1000 < s + 1 ∨ 256 < d ∨ rightP l 1099511627776 1000 = false
  · rw [sndF_bad h1] at h; simp at h
  · exact ⟨by omega, by omega, by cases hR : rightP l 1099511627776 1000 <;> simp_all, sndF_ok h1⟩
theorem sndF_small : Small sndF 1000 := fun l d s h0 h => by
  have := sndF_small' h0 h
  rw [this.2.2.2]
  exact ⟨by show 0 ≤ s + 1; omega, this.1⟩
end Go.Proofs.Ytjlhbaohippidaa
