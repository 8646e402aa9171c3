/-
  Sums: how they lie in memory; the walk of at.
-/
import Derived.Test.YtjlhbaohippidaaLvM
namespace Go.Proofs.Ytjlhbaohippidaa
open Go.RowKit Go.Proofs.YtjlhbaohippidaaW.PrintWords Go.RegionInvYtjlhbaohippidaa

/-- Whole numbers that can be read, in blocks of S. -/
def IntsS (w : World) (S : Nat → Prop) (A : Option Addr) (n : Nat) (ks : List Int) : Prop := ReadsInt w .i64 A n ks ∧ (0 < n → ∃ ad, A = some ad ∧ S ad.block)
theorem IntsS.same {w w' : World} {S : Nat → Prop} {A : Option Addr} {n : Nat} {ks : List Int} (h : IntsS w S A n ks) (hs : ∀ k, S k → k < w.heap.size → w'.heap[k]? = w.heap[k]?) : IntsS w' S A n ks := by
  refine ⟨⟨h.1.1, h.1.2.1, fun hn => ?_⟩, h.2⟩
  obtain ⟨ad, e, hc⟩ := h.1.2.2 hn
  obtain ⟨ad', e', hS⟩ := h.2 hn
  rw [e] at e'
  obtain rfl := Option.some.inj e'
  refine ⟨ad, e, fun j hj => ?_⟩
  have hb : (ad.add j).block = ad.block := add_block _ _
  have hx := hc j hj
  exact (cell_same (w := w) (w' := w') (by rw [hb]; exact hs _ hS (by have := World.block_lt_of_cell? w _ hx; rwa [hb] at this))).trans hx
theorem IntsS.later {w w' : World} {S : Nat → Prop} {A : Option Addr} {n : Nat} {ks : List Int} (h : IntsS w S A n ks) (hb : Below w.heap.size w w') : IntsS w' S A n ks := h.same fun k _ hk => hb.block k hk
theorem IntsS.mono {w : World} {S S' : Nat → Prop} {A : Option Addr} {n : Nat} {ks : List Int} (h : IntsS w S A n ks) (hS : ∀ k, S k → k < w.heap.size → S' k) : IntsS w S' A n ks := by
  refine ⟨h.1, fun hn => ?_⟩
  obtain ⟨ad, e, hs⟩ := h.2 hn
  obtain ⟨ad', e', hc⟩ := h.1.2.2 hn
  rw [e] at e'
  obtain rfl := Option.some.inj e'
  exact ⟨ad, e, hS _ hs (by have := World.block_lt_of_cell? w _ (hc 0 hn); rwa [add_block] at this)⟩
theorem IntsS.nil (w : World) (S : Nat → Prop) : IntsS w S none 0 [] := ⟨⟨rfl, by omega, fun h => absurd h (by omega)⟩, fun h => absurd h (by omega)⟩
theorem IntsS.of_own {w : World} {base : Nat} {e : TypeId} {v : Value} {n : Nat} {ks : List Int} (h : w.ownsRow base e 1 v n (nums .i64 ks)) : ∃ A c, v = .slice A n c ∧ n ≤ c ∧ IntsS w (fun b => base ≤ b) A n ks := by
  obtain ⟨A, c, rfl, hr⟩ := own_reads h
  refine ⟨A, c, rfl, own_cap h, hr, fun hn => ?_⟩
  obtain ⟨g, cap, hv, hb, _⟩ := h.form hn
  injection hv with hA
  exact ⟨_, hA, hb⟩

def atP (ks : List Int) (i : Int) : Int := if i < ks.length then rd ks i else -1
theorem atP_in {ks : List Int} {i : Int} (h : i < ks.length) : atP ks i = rd ks i := if_pos h
theorem atP_out {ks : List Int} {i : Int} (h : ¬ i < ks.length) : atP ks i = -1 := if_neg h
set_option maxHeartbeats 2000000 in
theorem at_calls (A : Option Addr) (n cap : Nat) (c : Int) (ks : List Int) (i : Int) (w : World) (hr : ReadsInt w .i64 A n ks) (h0 : 0 ≤ i) :
    Calls Try.prog 40 #[.agg #[.int .i64 c, .slice A n cap], .int .i64 i] w fun e w' => e = .returned (.int .i64 (atP ks i)) ∧ Below w.heap.size w w' := by
  have HR := Aside0.mk (hr.below ((Below.refl w.heap.size w).alloc (Nat.le_refl _) (.cells #[.int .i64 c, .slice A n cap] 52 (0, 0))))
  have hn := hr.1
  have hn9 := hr.2.1
  clear hr
  go_enter Try.func40, Try.ntmps40
  by_cases h1 : i < n
  · have HE := Aside0.mk (atP_in (ks := ks) (i := i) (by rw [hn]; exact h1))
    obtain ⟨ad, rfl, hc⟩ := HR.out.at_ i h0 h1
    clear hn
    go_wp2
    go_ret
    exact ⟨by rw [HE.out]; rfl, below_alloc (Below.refl _ _) _⟩
  · have HE := Aside0.mk (atP_out (ks := ks) (i := i) (by rw [hn]; exact h1))
    clear hn
    go_wp2
    go_ret
    exact ⟨by rw [HE.out]; rfl, below_alloc (Below.refl _ _) _⟩
/-- A sum that a call gives. -/
def NfGot (w : World) (S : Nat → Prop) (f : Int × List Int) (e : Ending) (w' : World) : Prop :=
  ∃ A n cap, e = .returned (.agg #[.int .i64 f.1, .slice A n cap]) ∧ n ≤ cap ∧ IntsS w' (fun b => S b ∨ w.heap.size ≤ b) A n f.2 ∧ Below w.heap.size w w'
theorem row2 {w : World} {g : Nat} {a b : Value} {t : TypeId} (h : w.heap[g]? = some (.cells #[a, b] t (0, 0))) :
    w.cell? ⟨g, 0, none⟩ = some a ∧ w.cell? ⟨g, 1, none⟩ = some b ∧ w.frozen? ⟨g, 0, none⟩ = false ∧ w.frozen? ⟨g, 1, none⟩ = false := by
  refine ⟨?_, ?_, blk_frozen h 0, blk_frozen h 1⟩ <;> (rw [cell_of_row _ _ _ _ _ _ h]; rfl)
theorem set2 {w : World} {g : Nat} {x y a b : Value} {t : TypeId} (h : w.heap[g]? = some (.cells #[x, y] t (0, 0))) :
    ((w.setCell ⟨g, 0, none⟩ a).setCell ⟨g, 1, none⟩ b).heap[g]? = some (.cells #[a, b] t (0, 0)) := blk_put (blk_put h 0 a rfl) 1 b rfl
theorem chg_set2 (w : World) (g : Nat) (a b : Value) : Chg (fun k => k = g) w ((w.setCell ⟨g, 0, none⟩ a).setCell ⟨g, 1, none⟩ b) := chg_trans (chg_set _ _ _ _) (chg_set _ _ _ _)

/-! ### So much more -/
def addN (k x : Int) : Int := if 0 ≤ x then min 1099511627776 (x + k) else x
def plusN (k : Int) (f : Int × List Int) : Int × List Int := (min 1099511627776 (f.1 + k), f.2.map (addN k))
end Go.Proofs.Ytjlhbaohippidaa
