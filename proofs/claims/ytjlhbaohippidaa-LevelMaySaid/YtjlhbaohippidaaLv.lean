/-
  Levels as trees, and how a level lies in memory.
-/
import Derived.Test.YtjlhbaohippidaaWWords
import Derived.Test.YtjlhbaohippidaaRegion
namespace Go.Proofs.Ytjlhbaohippidaa
open Go.RowKit Go.Proofs.YtjlhbaohippidaaW.PrintWords Go.RegionInvYtjlhbaohippidaa

inductive Lv where
  | mk (kind n : Int) (kids : List Lv)
namespace Lv
def kind : Lv → Int | mk k _ _ => k
def num : Lv → Int | mk _ n _ => n
def kids : Lv → List Lv | mk _ _ ks => ks
end Lv
theorem Lv.eta (l : Lv) : Lv.mk l.kind l.num l.kids = l := by cases l; rfl

/-- Element i of a row of levels. -/
def CellsAt (w : World) (S : Nat → Prop) (A : Option Addr) (i : Nat) (a b : Int) (A' : Option Addr) (n' c' : Nat) : Prop :=
  ∃ ad, A = some ad ∧ S ad.block ∧ ad.spot = none ∧ w.cell? (ad.add (i * 3)) = some (.int .i64 a) ∧ w.cell? (ad.add (i * 3 + 1)) = some (.int .i64 b) ∧ w.cell? (ad.add (i * 3 + 2)) = some (.slice A' n' c')

/-- The kids of l lie at A, all blocks of S. -/
inductive LvS (w : World) (S : Nat → Prop) : Option Addr → Nat → Lv → Prop
  | mk {A : Option Addr} {c : Nat} {k n : Int} {kids : List Lv} (fA : Nat → Option Addr) (fc : Nat → Nat) (hc : kids.length ≤ c) (hm : c ≤ 9223372036854775807)
      (hcell : ∀ (i : Nat) (x : Lv), kids[i]? = some x → CellsAt w S A i x.kind x.num (fA i) x.kids.length (fc i)) (hk : ∀ (i : Nat) (x : Lv), kids[i]? = some x → LvS w S (fA i) (fc i) x) : LvS w S A c (.mk k n kids)
/-- .. all blocks below B. -/
abbrev LvIn (w : World) (B : Nat) : Option Addr → Nat → Lv → Prop := LvS w fun k => k < B

/-- The value of a level. -/
def lvV (A : Option Addr) (c : Nat) (l : Lv) : Value := .agg #[.int .i64 l.kind, .int .i64 l.num, .slice A l.kids.length c]

theorem cell_same {w w' : World} {p : Addr} (h : w'.heap[p.block]? = w.heap[p.block]?) : w'.cell? p = w.cell? p := by simp [World.cell?, h]
theorem CellsAt.same {w w' : World} {S : Nat → Prop} {A : Option Addr} {i : Nat} {a b : Int} {A' : Option Addr} {n' c' : Nat} (h : CellsAt w S A i a b A' n' c') (hs : ∀ k, S k → k < w.heap.size → w'.heap[k]? = w.heap[k]?) : CellsAt w' S A i a b A' n' c' := by
  obtain ⟨ad, e, hlt, hsp, h1, h2, h3⟩ := h
  have hb : ∀ j, (ad.add j).block = ad.block := fun j => by unfold Addr.add; split <;> rfl
  have hz : ad.block < w.heap.size := by have := World.block_lt_of_cell? w _ h1; rwa [hb] at this
  have key : ∀ j, w'.cell? (ad.add j) = w.cell? (ad.add j) := fun j => cell_same (by rw [hb]; exact hs _ hlt hz)
  exact ⟨ad, e, hlt, hsp, (key _).trans h1, (key _).trans h2, (key _).trans h3⟩
theorem LvS.same {w w' : World} {S : Nat → Prop} {A : Option Addr} {c : Nat} {l : Lv} (h : LvS w S A c l) (hs : ∀ k, S k → k < w.heap.size → w'.heap[k]? = w.heap[k]?) : LvS w' S A c l := by
  induction h with
  | mk fA fc hc hm hcell _ ih => exact .mk fA fc hc hm (fun i x hx => (hcell i x hx).same hs) ih
theorem LvS.mono {w : World} {S S' : Nat → Prop} {A : Option Addr} {c : Nat} {l : Lv} (h : LvS w S A c l) (hS : ∀ k, S k → k < w.heap.size → S' k) : LvS w S' A c l := by
  induction h with
  | mk fA fc hc hm hcell _ ih =>
    refine .mk fA fc hc hm (fun i x hx => ?_) ih
    obtain ⟨ad, e, hlt, hsp, h1, r⟩ := hcell i x hx
    have hb : (ad.add (i * 3)).block = ad.block := by unfold Addr.add; split <;> rfl
    exact ⟨ad, e, hS _ hlt (by have := World.block_lt_of_cell? w _ h1; rwa [hb] at this), hsp, h1, r⟩
theorem LvIn.stay {w w' : World} {B : Nat} {A : Option Addr} {c : Nat} {l : Lv} (h : LvIn w B A c l) (hb : Below B w w') : LvIn w' B A c l := LvS.same h fun k hk _ => hb.block k hk
theorem LvS.later {w w' : World} {S : Nat → Prop} {A : Option Addr} {c : Nat} {l : Lv} (h : LvS w S A c l) (hb : Below w.heap.size w w') : LvS w' S A c l := h.same fun k _ hk => hb.block k hk
theorem LvS.all {w : World} {S : Nat → Prop} {A : Option Addr} {c : Nat} {l : Lv} (h : LvS w S A c l) : LvIn w w.heap.size A c l := h.mono fun _ _ hk => hk
theorem LvS.len {w : World} {S : Nat → Prop} {A : Option Addr} {c : Nat} {l : Lv} (h : LvS w S A c l) : l.kids.length ≤ c ∧ c ≤ 9223372036854775807 := by
  cases h with
  | mk fA fc hc hm _ _ => exact ⟨hc, hm⟩
theorem LvS.kid {w : World} {S : Nat → Prop} {A : Option Addr} {c : Nat} {l : Lv} (h : LvS w S A c l) (i : Nat) (x : Lv) (hx : l.kids[i]? = some x) : ∃ A' c', CellsAt w S A i x.kind x.num A' x.kids.length c' ∧ LvS w S A' c' x := by
  cases h with
  | mk fA fc hc hm hcell hk => exact ⟨fA i, fc i, hcell i x hx, hk i x hx⟩
theorem LvIn.mono {w : World} {B B' : Nat} {A : Option Addr} {c : Nat} {l : Lv} (h : LvIn w B A c l) (hB : B ≤ B') : LvIn w B' A c l := LvS.mono h fun _ hk _ => Nat.lt_of_lt_of_le hk hB

/-! ### A visit of a level and all below it, as long as the visit tells 0 -/
mutual
def walkP (f : Lv → Int → Int → Int × Int) : Lv → Int → Int → Int × Int
  | .mk k n kids, d, s => if (f (.mk k n kids) d s).1 ≠ 0 then f (.mk k n kids) d s else walkKs f kids (d + 1) (f (.mk k n kids) d s).2
def walkKs (f : Lv → Int → Int → Int × Int) : List Lv → Int → Int → Int × Int
  | [], _, s => (0, s)
  | x :: r, d, s => if (walkP f x d s).1 ≠ 0 then walkP f x d s else walkKs f r d (walkP f x d s).2
end
theorem walkP_stop {f : Lv → Int → Int → Int × Int} {l : Lv} {d s : Int} (h : (f l d s).1 ≠ 0) : walkP f l d s = f l d s := by
  cases l; rw [walkP, if_pos h]
theorem walkP_go {f : Lv → Int → Int → Int × Int} {l : Lv} {d s : Int} (h : (f l d s).1 = 0) : walkP f l d s = walkKs f l.kids (d + 1) (f l d s).2 := by
  cases l; rw [walkP, if_neg (by simpa using h)]; rfl
theorem walkKs_stop {f : Lv → Int → Int → Int × Int} {x : Lv} {r : List Lv} {d s : Int} (h : (walkP f x d s).1 ≠ 0) : walkKs f (x :: r) d s = walkP f x d s := by
  rw [walkKs, if_pos h]
theorem walkKs_go {f : Lv → Int → Int → Int × Int} {x : Lv} {r : List Lv} {d s : Int} (h : (walkP f x d s).1 = 0) : walkKs f (x :: r) d s = walkKs f r d (walkP f x d s).2 := by
  rw [walkKs, if_neg (by simpa using h)]
end Go.Proofs.Ytjlhbaohippidaa
