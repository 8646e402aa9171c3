/-
  Merged: Region, Lv, Ops, LvA, LvS, LvW, LvK, LvC, Tm, TmK, FoMa, May, LvO, LvM, Nf, LvR, LvRS, MayR, RefMay, TName, TMay, TMayC, TMayR, Cnt.
-/
import Derived.Orders
import Derived.WalkKit
import Derived.Test.YtcgkeolgflphiaaWWords
import Derived.Test.YtcgkeolgflphiaaWLast
import Derived.Test.YtcgkeolgflphiaaProg
import Derived.Deep.QuietTactic
import Derived.BigQuiet
import Derived.Deep.DeepMust
import Derived.Deep.AppendLies
import Derived.Deep.RegionLaw
import Derived.Deep.CutBlock
import Derived.RangeFuncNested
import Derived.RangeFuncBound
import Derived.RangeFuncCalls
import Derived.RangeFuncLeaves
import Derived.Shelf.Abstract
import Derived.OwnWalkIn
import Derived.TacticsInMore
import Derived.LoopNIn
import Derived.LoopIn
/-! Region -/
namespace Go.RegionInvYtcgkeolgflphiaa
open Go.RowKit

section
variable {P : Program} {ops : Array Oper} {Q : Exit → Act → World → Prop} {B : Nat} {C : Nat → List Nat} {F : Nat → Value → World → (Nat → Prop) → Prop} {a0 : Act} {w0 : World}

/-- Slot t holds what it held, when operation j comes up: whoever writes it comes up behind j. -/
def initialB (ops : Array Oper) (j t : Nat) : Bool :=
  (List.range ops.size).all fun i => i == j || (match ops[i]? with | some o => o.dst != some t || o.after.toList.any (fun e => e.on == j && Region.binds .any e) | none => true)

/-- Nobody writes slot t. -/
def nwB (ops : Array Oper) (t : Nat) : Bool := ops.toList.all fun o => o.dst != some t
theorem initialB_of_nw {ops : Array Oper} {t j : Nat} (h : nwB ops t = true) : initialB ops j t = true := by
  unfold initialB nwB at *
  rw [List.all_eq_true]
  intro i hi
  have hlt := List.mem_range.1 hi
  rw [Array.getElem?_eq_getElem hlt]
  have := List.all_eq_true.1 h _ (Array.mem_toList_iff.2 (Array.getElem_mem hlt))
  simp only [this, Bool.true_or, Bool.or_true]

def predB (o : Oper) (i : Nat) : Bool := o.after.toList.any fun e => e.on == i && Region.binds .any e

/-- The world but for the blocks of S is as it was. -/
structure Chg (S : Nat → Prop) (w w' : World) : Prop where
  os : w'.os = w.os
  tape : w'.tape = w.tape
  output : w'.output = w.output
  size : w.heap.size ≤ w'.heap.size
  block : ∀ k, k < w.heap.size → ¬ S k → w'.heap[k]? = w.heap[k]?
theorem Chg.refl (S : Nat → Prop) (w : World) : Chg S w w := ⟨rfl, rfl, rfl, Nat.le_refl _, fun _ _ _ => rfl⟩
theorem Chg.mono {S S' : Nat → Prop} {w w' : World} (h : Chg S w w') (k : ∀ i, S i → S' i) : Chg S' w w' := ⟨h.os, h.tape, h.output, h.size, fun i hi hs => h.block i hi fun x => hs (k i x)⟩
theorem Chg.of_below {S : Nat → Prop} {w w' : World} (h : Below w.heap.size w w') : Chg S w w' := ⟨h.os, h.tape, h.output, h.size, fun i hi _ => h.block i hi⟩
theorem Chg.below {S : Nat → Prop} {B : Nat} {w w' : World} (h : Chg S w w') (hS : ∀ k, S k → B ≤ k) (hB : B ≤ w.heap.size) : Below B w w' :=
  ⟨h.os, h.tape, h.output, h.size, fun i hi => h.block i (by omega) (fun x => by have := hS i x; omega)⟩
theorem Chg.trans_below {S : Nat → Prop} {B : Nat} {a w w' : World} (h : Below B a w) (k : Chg S w w') (hS : ∀ k, S k → B ≤ k) (hB : B ≤ w.heap.size) : Below B a w' := h.trans (k.below hS hB)

/-- Row v0 has become row v; no other block has turned. -/
def Grew (v0 v : Value) (w w' : World) : Prop := Chg (fun k => v0.ownBlock = some k) w w' ∧ ∀ k, v.ownBlock = some k → v0.ownBlock = some k ∨ w.heap.size ≤ k
theorem Grew.refl (v : Value) (w : World) : Grew v v w w := ⟨Chg.refl _ _, fun _ h => .inl h⟩
theorem Grew.trans {v0 v1 v2 : Value} {w w1 w2 : World} (h : Grew v0 v1 w w1) (k : Grew v1 v2 w1 w2) : Grew v0 v2 w w2 := by
  refine ⟨⟨k.1.os.trans h.1.os, k.1.tape.trans h.1.tape, k.1.output.trans h.1.output, Nat.le_trans h.1.size k.1.size, fun i hi hs => ?_⟩, fun i hi => ?_⟩
  · rw [k.1.block i (Nat.lt_of_lt_of_le hi h.1.size) (fun e => ?_), h.1.block i hi hs]
    rcases h.2 i e with e | e
    · exact hs e
    · omega
  · rcases k.2 i hi with e | e
    · exact h.2 i e
    · exact .inr (Nat.le_trans h.1.size e)
theorem Grew.of_append {v v1 : Value} {w w1 : World} (hg : w.grownBy w1 v.ownBlock) (hat : v1.ownBlock = v.ownBlock ∨ ∃ b, v1.ownBlock = some b ∧ w.heap.size ≤ b) : Grew v v1 w w1 := by
  refine ⟨⟨hg.os, hg.tape, hg.output, hg.size, fun k hk hs => hg.block k hk (fun e => hs e.symm)⟩, fun k hk => ?_⟩
  rcases hat with e | ⟨b, e, hb⟩
  · exact .inl (e ▸ hk)
  · rw [e] at hk; obtain rfl := Option.some.inj hk; exact .inr hb
theorem Grew.below {v0 v : Value} {w w' : World} {B : Nat} (h : Grew v0 v w w') (hB : ∀ k, v0.ownBlock = some k → B ≤ k) (hz : B ≤ w.heap.size) : Below B w w' := h.1.below hB hz

/-- What a fact leans on: the blocks below B and those that are its own. -/
def Stable (B : Nat) (G : Value → World → (Nat → Prop) → Prop) : Prop :=
  ∀ v w w' O, G v w O → w.heap.size ≤ w'.heap.size → (∀ k, k < w.heap.size → (k < B ∨ O k) → w'.heap[k]? = w.heap[k]?) → G v w' O

def freeB (C : Nat → List Nat) (n i j : Nat) : Bool := (List.range n).all fun k => k == j || !(C k).contains i

/-- What is known when operation j comes up. -/
structure Known (ops : Array Oper) (B : Nat) (C : Nat → List Nat) (F : Nat → Value → World → (Nat → Prop) → Prop) (a0 : Act) (w0 : World) (j : Nat) (o : Oper) (a : Act) (w : World) (O : Nat → Nat → Prop) : Prop where
  fact : ∀ i oi d, ops[i]? = some oi → oi.dst = some d → predB o i = true → freeB C ops.size i j = true → F i (a.tmps.getD d undef) w (O i)
  owns : ∀ i, predB o i = true → freeB C ops.size i j = true → ∀ k, O i k → B ≤ k ∧ k < w.heap.size
  init : ∀ t, initialB ops j t = true → a.tmps.getD t undef = a0.tmps.getD t undef
  size : a.tmps.size = a0.tmps.size
  world : Below B w0 w
  base : B ≤ w.heap.size

/-- What operation j owes. -/
def Owes (P : Program) (ops : Array Oper) (Q : Exit → Act → World → Prop) (Cj : List Nat) (O : Nat → Nat → Prop) (G : Value → World → (Nat → Prop) → Prop) (o : Oper) (a : Act) (w : World) : Prop :=
  if Region.wanted o (yielded ops a.tmps) then o.wp P a w (fun a' w' => ∃ v O', a' = a.put o.dst v ∧ G v w' O' ∧ Chg (fun k => ∃ i ∈ Cj, O i k) w w' ∧
    (∀ k, O' k → (∃ i ∈ Cj, O i k) ∨ (w.heap.size ≤ k ∧ k < w'.heap.size))) Q
  else G undef w (fun _ => False)

def Obs (P : Program) (ops : Array Oper) (Q : Exit → Act → World → Prop) (B : Nat) (C : Nat → List Nat) (F : Nat → Value → World → (Nat → Prop) → Prop) (a0 : Act) (w0 : World) : List Oper → Nat → Prop
  | [], _ => True
  | o :: r, j => (Stable B (F j) ∧ ∀ a w O, Known ops B C F a0 w0 j o a w O → Owes P ops Q (C j) O (F j) o a w) ∧ Obs P ops Q B C F a0 w0 r (j + 1)

theorem Obs.at_ : ∀ (l : List Oper) (k : Nat), Obs P ops Q B C F a0 w0 l k → ∀ j o, l[j]? = some o → Stable B (F (k + j)) ∧ ∀ a w O, Known ops B C F a0 w0 (k + j) o a w O → Owes P ops Q (C (k + j)) O (F (k + j)) o a w := by
  intro l
  induction l with
  | nil => intro k _ j o h; simp at h
  | cons x r ih =>
    intro k h j o hj
    cases j with
    | zero => obtain rfl : x = o := by simpa using hj
              exact h.1
    | succ j =>
      have := ih (k + 1) h.2 j o (by simpa using hj)
      rwa [show k + 1 + j = k + (j + 1) by omega] at this

/-- Each slot is written once; edges lead back; slots are there; no defer. -/
def okB (ops : Array Oper) (n : Nat) : Bool :=
  ((List.range ops.size).all fun i => match ops[i]? with
    | some o => (o.after.toList.all fun e => !Region.binds .any e || decide (e.on < i)) &&
      (match o.dst with | some d => decide (d < n) && ((List.range i).all fun k => match ops[k]? with | some o' => o'.dst != some d | none => true) | none => true)
    | none => true)

theorem okB.edges {n : Nat} (h : okB ops n = true) {i : Nat} {o : Oper} (hi : ops[i]? = some o) : ∀ e ∈ o.after, Region.binds .any e = true → e.on < i := by
  unfold okB at h
  have hlt := (Array.getElem?_eq_some_iff.1 hi).1
  have := List.all_eq_true.1 h i (List.mem_range.2 hlt)
  simp only [hi, Bool.and_eq_true] at this
  intro e he hb
  have h2 := List.all_eq_true.1 this.1 e (Array.mem_toList_iff.2 he)
  simpa [hb] using h2
theorem okB.size {n : Nat} (h : okB ops n = true) {i d : Nat} {o : Oper} (hi : ops[i]? = some o) (hd : o.dst = some d) : d < n := by
  unfold okB at h
  have hlt := (Array.getElem?_eq_some_iff.1 hi).1
  have := List.all_eq_true.1 h i (List.mem_range.2 hlt)
  simp only [hi, hd, Bool.and_eq_true] at this
  simpa using this.2.1
theorem okB.once {n : Nat} (h : okB ops n = true) {i k d : Nat} {o o' : Oper} (hi : ops[i]? = some o) (hd : o.dst = some d) (hk : ops[k]? = some o') (hd' : o'.dst = some d) : i = k := by
  have key : ∀ {i k : Nat} {o o' : Oper}, ops[i]? = some o → o.dst = some d → ops[k]? = some o' → o'.dst = some d → ¬ k < i := by
    intro i k o o' hi hd hk hd' hlt
    unfold okB at h
    have hl := (Array.getElem?_eq_some_iff.1 hi).1
    have := List.all_eq_true.1 h i (List.mem_range.2 hl)
    simp only [hi, hd, Bool.and_eq_true] at this
    have h2 := List.all_eq_true.1 this.2.2 k (List.mem_range.2 hlt)
    simp [hk, hd'] at h2
  have h1 := key hi hd hk hd'
  have h2 := key hk hd' hi hd
  omega

/-- What is used up is a slot's, known to who uses it alone. -/
def consB (ops : Array Oper) (C : Nat → List Nat) : Bool :=
  (List.range ops.size).all fun j => (C j).all fun i => freeB C ops.size i j && (match ops[j]? with | some o => predB o i | none => false)

theorem freeB.spec {n i j k : Nat} (h : freeB C n i j = true) (hk : k < n) (hne : k ≠ j) : i ∉ C k := by
  unfold freeB at h
  have := List.all_eq_true.1 h k (List.mem_range.2 hk)
  simp only [Bool.or_eq_true, beq_iff_eq, Bool.not_eq_true'] at this
  rcases this with e | e
  · exact absurd e hne
  · intro hm; rw [List.contains_iff_mem.2 hm] at e; cases e
theorem consB.spec (h : consB ops C = true) {j i : Nat} {o : Oper} (hj : ops[j]? = some o) (hi : i ∈ C j) : freeB C ops.size i j = true ∧ predB o i = true := by
  unfold consB at h
  have h1 := List.all_eq_true.1 h j (List.mem_range.2 (Array.getElem?_eq_some_iff.1 hj).1)
  have h2 := List.all_eq_true.1 h1 i hi
  rw [hj] at h2
  simpa using h2

/-- Operation i has come up, and nobody has used it up. -/
def live (ops : Array Oper) (C : Nat → List Nat) (L : Array Bool) (i : Nat) : Prop := L.getD i false = true ∧ ∀ k, k < ops.size → L.getD k false = true → i ∉ C k

/-- All that has come up. -/
structure Inv (ops : Array Oper) (B : Nat) (C : Nat → List Nat) (F : Nat → Value → World → (Nat → Prop) → Prop) (a0 : Act) (w0 : World) (L : Array Bool) (O : Nat → Nat → Prop) (a : Act) (w : World) : Prop where
  defers : a.defers = a0.defers
  size : a.tmps.size = a0.tmps.size
  fact : ∀ i o d, ops[i]? = some o → o.dst = some d → live ops C L i → F i (a.tmps.getD d undef) w (O i)
  owns : ∀ i, live ops C L i → ∀ k, O i k → B ≤ k ∧ k < w.heap.size
  apart : ∀ i j, live ops C L i → live ops C L j → i ≠ j → ∀ k, O i k → ¬ O j k
  same : ∀ t, (∀ i o, ops[i]? = some o → L.getD i false = true → o.dst ≠ some t) → a.tmps.getD t undef = a0.tmps.getD t undef
  closed : ∀ i o, ops[i]? = some o → L.getD i false = true → ∀ e ∈ o.after, Region.binds .any e = true → L.getD e.on false = true
  world : Below B w0 w
  base : B ≤ w.heap.size
  len : L.size = ops.size

theorem getD_put_same {a : Act} {d : Nat} {v : Value} (h : d < a.tmps.size) : (a.put (some d) v).tmps.getD d undef = v := by
  simp [Act.put, Array.getD, h]
theorem getD_put_ne {a : Act} {dst : Option Tmp} {v : Value} {t : Nat} (h : dst ≠ some t) : (a.put dst v).tmps.getD t undef = a.tmps.getD t undef := by
  cases dst with
  | none => rfl
  | some d =>
    have hne : d ≠ t := fun e => h (by rw [e])
    simp only [Act.put, Array.getD_eq_getD_getElem?, Array.getElem?_setIfInBounds_ne hne]
theorem size_put (a : Act) (dst : Option Tmp) (v : Value) : (a.put dst v).tmps.size = a.tmps.size := by
  cases dst <;> simp [Act.put]
theorem defers_put (a : Act) (dst : Option Tmp) (v : Value) : (a.put dst v).defers = a.defers := by
  cases dst <;> simp [Act.put]

theorem any_of_inv (hok : okB ops a0.tmps.size = true) (hcons : consB ops C = true) (hobs : Obs P ops Q B C F a0 w0 ops.toList 0)
    (hend : ∀ (L : Array Bool) (O : Nat → Nat → Prop) (a : Act) (w : World), (∀ i, i < ops.size → L.getD i false = true) → Inv ops B C F a0 w0 L O a w → Q .normal a w) :
    ∀ (fuel : Nat) (L : Array Bool) (O : Nat → Nat → Prop) (a : Act) (w : World), Inv ops B C F a0 w0 L O a w → (L.toList.filter (· == false)).length ≤ fuel → wpAny P .any ops Q fuel L a w := by
  -- where nothing is ready all has come up
  have hall : ∀ (L : Array Bool) (O : Nat → Nat → Prop) (a : Act) (w : World), Inv ops B C F a0 w0 L O a w → Region.ready .any ops L = [] → ∀ i, i < ops.size → L.getD i false = true := by
    intro L O a w hI hr i
    induction i using Nat.strongRecOn with
    | _ i ih =>
      intro hi
      cases hL : L.getD i false with
      | true => rfl
      | false =>
        exfalso
        have hmem : i ∈ Region.ready .any ops L := by
          unfold Region.ready
          rw [List.mem_filter]
          refine ⟨List.mem_range.2 hi, ?_⟩
          have hL' : L.getD i true = false := by
            have hlt : i < L.size := by rw [hI.len]; exact hi
            simp only [Array.getD, hlt, dite_true] at hL ⊢
            exact hL
          rw [hL', Array.getElem?_eq_getElem hi]
          simp only [Bool.not_false, Bool.true_and, Option.map_some, Option.getD_some]
          rw [Array.all_eq_true_iff_forall_mem]
          intro e he
          cases hb : Region.binds .any e with
          | false => rfl
          | true =>
            have h1 := okB.edges hok (Array.getElem?_eq_getElem hi) e he hb
            rw [ih e.on h1 (by omega)]; rfl
        rw [hr] at hmem
        cases hmem
  intro fuel
  induction fuel with
  | zero =>
    intro L O a w hI hf
    have hr : Region.ready .any ops L = [] := by
      rw [List.eq_nil_iff_forall_not_mem]
      intro i hi
      unfold Region.ready at hi
      rw [List.mem_filter] at hi
      obtain ⟨h1, h2⟩ := hi
      have hlt : i < L.size := by rw [hI.len]; exact List.mem_range.1 h1
      simp only [Bool.and_eq_true, Bool.not_eq_true'] at h2
      have h3 : L[i] = false := by simpa [Array.getD, hlt] using h2.1
      have h4 : false ∈ L.toList.filter (· == false) := by
        rw [List.mem_filter]; exact ⟨by rw [← h3]; simp, rfl⟩
      have h5 := List.length_pos_of_mem h4
      omega
    exact ⟨hr, hend L O a w (hall L O a w hI hr) hI⟩
  | succ fuel ih =>
    intro L O a w hI hf
    refine ⟨fun hr => hend L O a w (hall L O a w hI hr) hI, fun j hj => ?_⟩
    unfold Region.ready at hj
    rw [List.mem_filter] at hj
    obtain ⟨h1, h2⟩ := hj
    have hjn : j < ops.size := List.mem_range.1 h1
    have hjL : j < L.size := by rw [hI.len]; exact hjn
    have ho : ops[j]? = some ops[j] := Array.getElem?_eq_getElem hjn
    generalize ops[j] = o at ho
    rw [ho] at h2
    simp only [Bool.and_eq_true, Bool.not_eq_true', Option.map_some, Option.getD_some] at h2
    obtain ⟨h2, h3⟩ := h2
    have hjf : L.getD j false = false := by
      simp only [Array.getD, hjL, dite_true] at h2 ⊢
      exact h2
    have hpre : ∀ e ∈ o.after, Region.binds .any e = true → L.getD e.on false = true := by
      intro e he hb
      have := Array.all_eq_true_iff_forall_mem.1 h3 e he
      simpa [hb] using this
    have hset : ∀ i, (L.setIfInBounds j true).getD i false = true ↔ i = j ∨ L.getD i false = true := by
      intro i
      by_cases e : i = j
      · subst e; simp [Array.getD, hjL]
      · have : (L.setIfInBounds j true).getD i false = L.getD i false := by
          simp only [Array.getD_eq_getD_getElem?, Array.getElem?_setIfInBounds_ne (fun h => e h.symm)]
        rw [this]; simp [e]
    -- who is known to j has not been used up
    have hlive : ∀ i, predB o i = true → freeB C ops.size i j = true → live ops C L i := by
      intro i hp hfr
      unfold predB at hp
      rw [List.any_eq_true] at hp
      obtain ⟨e, he, hb⟩ := hp
      replace he := Array.mem_toList_iff.1 he
      simp only [Bool.and_eq_true, beq_iff_eq] at hb
      have := hpre e he hb.2
      rw [hb.1] at this
      refine ⟨this, fun k hk hL => freeB.spec hfr hk fun e' => ?_⟩
      subst e'
      rw [hjf] at hL; cases hL
    -- what is known
    have hk : Known ops B C F a0 w0 j o a w O := by
      refine ⟨fun i oi d hi hd hp hfr => hI.fact i oi d hi hd (hlive i hp hfr), fun i hp hfr => hI.owns i (hlive i hp hfr), fun t ht => ?_, hI.size, hI.world, hI.base⟩
      refine hI.same t fun i oi hi hL hd => ?_
      unfold initialB at ht
      have hin := (Array.getElem?_eq_some_iff.1 hi).1
      have h5 := List.all_eq_true.1 ht i (List.mem_range.2 hin)
      rw [hi] at h5
      simp only [Bool.or_eq_true, beq_iff_eq] at h5
      rcases h5 with h5 | h5 | h5
      · subst h5; rw [hjf] at hL; cases hL
      · simp [hd] at h5
      · rw [List.any_eq_true] at h5
        obtain ⟨e, he, hb⟩ := h5
        replace he := Array.mem_toList_iff.1 he
        simp only [Bool.and_eq_true, beq_iff_eq] at hb
        have := hI.closed i oi hi hL e he hb.2
        rw [hb.1, hjf] at this
        cases this
    have hob := (Obs.at_ ops.toList 0 hobs j o (by simpa using ho)).2 a w O (by simpa using hk)
    rw [Nat.zero_add] at hob
    have hsta : ∀ i oi, ops[i]? = some oi → Stable B (F i) := fun i oi hi => by
      have := (Obs.at_ ops.toList 0 hobs i oi (by simpa using hi)).1
      rwa [Nat.zero_add] at this
    have hcount : ((L.setIfInBounds j true).toList.filter (· == false)).length ≤ fuel := by
      have key : ∀ (l : List Bool) (j : Nat), l[j]? = some false → ((l.set j true).filter (· == false)).length + 1 = (l.filter (· == false)).length := by
        intro l
        induction l with
        | nil => intro j h; simp at h
        | cons x r ih =>
          intro j h
          cases j with
          | zero => obtain rfl : x = false := by simpa using h
                    simp
          | succ j =>
            have := ih j (by simpa using h)
            cases x <;> simp_all
      have h6 : L.toList[j]? = some false := by
        rw [Array.getElem?_toList, Array.getElem?_eq_getElem hjL]
        congr 1
        simpa [Array.getD, hjL] using hjf
      have := key L.toList j h6
      rw [Array.toList_setIfInBounds]
      omega
    -- behind it
    have hSB : ∀ k, (∃ i ∈ C j, O i k) → B ≤ k ∧ k < w.heap.size := by
      rintro k ⟨i, hi, hO⟩
      have := consB.spec hcons ho hi
      exact hI.owns i (hlive i this.2 this.1) k hO
    have hstep : ∀ v w' O', F j v w' O' → Chg (fun k => ∃ i ∈ C j, O i k) w w' → (∀ k, O' k → (∃ i ∈ C j, O i k) ∨ (w.heap.size ≤ k ∧ k < w'.heap.size)) →
        wpAny P .any ops Q fuel (L.setIfInBounds j true) (a.put o.dst v) w' := by
      intro v w' O' hF hC hO'
      have hlv : ∀ i, live ops C (L.setIfInBounds j true) i → i = j ∨ (live ops C L i ∧ i ∉ C j ∧ i ≠ j) := by
        intro i hi
        by_cases e : i = j
        · exact .inl e
        · refine .inr ⟨⟨((hset i).1 hi.1).resolve_left e, fun k hk hL => hi.2 k hk ((hset k).2 (.inr hL))⟩, hi.2 j hjn ((hset j).2 (.inl rfl)), e⟩
      -- a live one's own blocks are none of those that are turned
      have hapart : ∀ i, live ops C L i → i ∉ C j → ∀ k, O i k → ¬ ∃ i' ∈ C j, O i' k := by
        rintro i hi hn k hO ⟨i', hi', hO2⟩
        have := consB.spec hcons ho hi'
        exact hI.apart i i' hi (hlive i' this.2 this.1) (fun e => hn (e ▸ hi')) k hO hO2
      refine ih _ (fun i => if i = j then O' else O i) _ _ ⟨by rw [defers_put]; exact hI.defers, by rw [size_put]; exact hI.size, ?_, ?_, ?_, ?_, ?_, ?_, Nat.le_trans hI.base hC.size, by simpa using hI.len⟩ hcount
      · intro i oi d hi hd hL
        rcases hlv i hL with e | ⟨hl, hn, hne⟩
        · subst e
          rw [ho] at hi
          obtain rfl := Option.some.inj hi
          rw [hd, getD_put_same (by rw [hI.size]; exact okB.size hok ho hd), if_pos rfl]
          exact hF
        · rw [if_neg hne, getD_put_ne]
          · refine hsta i oi hi _ _ _ _ (hI.fact i oi d hi hd hl) hC.size fun k hk hor => hC.block k hk ?_
            rcases hor with h | h
            · intro hs; have := (hSB k hs).1; omega
            · exact hapart i hl hn k h
          · intro e
            exact hne (okB.once hok hi hd ho e)
      · intro i hL k hO
        by_cases e : i = j
        · rw [if_pos e] at hO
          have hb := hI.base
          have hz := hC.size
          rcases hO' k hO with h | h
          · have := hSB k h; omega
          · omega
        · rw [if_neg e] at hO
          have := hI.owns i ((hlv i hL).resolve_left e).1 k hO
          have := hC.size
          omega
      · intro i i2 hi hi2 hne k hO hO2
        by_cases e : i = j
        · have e2 : i2 ≠ j := fun h => hne (e.trans h.symm)
          rw [if_pos e] at hO
          rw [if_neg e2] at hO2
          have hl := (hlv i2 hi2).resolve_left e2
          rcases hO' k hO with h | h
          · exact hapart i2 hl.1 hl.2.1 k hO2 h
          · have := hI.owns i2 hl.1 k hO2; omega
        · rw [if_neg e] at hO
          have hl := (hlv i hi).resolve_left e
          by_cases e2 : i2 = j
          · rw [if_pos e2] at hO2
            rcases hO' k hO2 with h | h
            · exact hapart i hl.1 hl.2.1 k hO h
            · have := hI.owns i hl.1 k hO; omega
          · rw [if_neg e2] at hO2
            exact hI.apart i i2 hl.1 ((hlv i2 hi2).resolve_left e2).1 hne k hO hO2
      · intro t ht
        rw [getD_put_ne (ht j o ho ((hset j).2 (.inl rfl)))]
        exact hI.same t fun i oi hi hL => ht i oi hi ((hset i).2 (.inr hL))
      · intro i oi hi hL e he hb
        refine (hset e.on).2 ?_
        rcases (hset i).1 hL with e' | hL3
        · subst e'
          rw [ho] at hi
          obtain rfl := Option.some.inj hi
          exact .inr (hpre e he hb)
        · exact .inr (hI.closed i oi hi hL3 e he hb)
      · exact Chg.trans_below hI.world hC (fun k hk => (hSB k hk).1) hI.base
    unfold wpOp
    rw [ho]
    unfold Owes at hob
    simp only []
    split
    · rename_i hw
      rw [if_pos hw] at hob
      refine .inl (Oper.wp_mono ?_ hob)
      rintro a' w' ⟨v, O', rfl, hF, hR, hO'⟩
      exact hstep v w' O' hF hR hO'
    · rename_i hw
      rw [if_neg hw] at hob
      exact hstep undef w _ hob (Chg.refl _ _) (fun _ h => h.elim)

/-- THE REGION. -/
theorem wp_region_inv {id : Nat} {a0 : Act} {w0 : World} (hm : P.follows .mixedOrders = true) (B : Nat) (C : Nat → List Nat) (F : Nat → Value → World → (Nat → Prop) → Prop) (hB : B ≤ w0.heap.size) (hok : okB ops a0.tmps.size = true) (hcons : consB ops C = true)
    (hobs : Obs P ops Q B C F a0 w0.drew ops.toList 0)
    (hend : ∀ a w (O : Nat → Nat → Prop), a.defers = a0.defers → a.tmps.size = a0.tmps.size → Below B w0.drew w →
      (∀ (i : Nat) (o : Oper) (d : Nat), ops[i]? = some o → o.dst = some d → (∀ k, k < ops.size → i ∉ C k) → F i (a.tmps.getD d undef) w (O i) ∧ ∀ k, O i k → B ≤ k ∧ k < w.heap.size) →
      (∀ (t : Nat), (∀ (i : Nat) (o : Oper), ops[i]? = some o → o.dst ≠ some t) → a.tmps.getD t undef = a0.tmps.getD t undef) → Q .normal a w) :
    (Code.region id ops true).wp P Q a0 w0 := by
  refine wp_region_any hm ?_
  refine any_of_inv (B := B) (C := C) (F := F) (a0 := a0) (w0 := w0.drew) hok hcons hobs ?_ _ _ (fun _ _ => False) _ _ ?_ ?_
  · intro L O a w hL hI
    refine hend a w O hI.defers hI.size hI.world (fun i o d hi hd hn => ?_) (fun t ht => hI.same t fun i o hi _ => ht i o hi)
    have hl : live ops C L i := ⟨hL i (Array.getElem?_eq_some_iff.1 hi).1, fun k hk _ => hn k hk⟩
    exact ⟨hI.fact i o d hi hd hl, hI.owns i hl⟩
  · refine ⟨rfl, rfl, ?_, ?_, ?_, fun _ _ => rfl, ?_, Below.refl _ _, hB, by simp⟩
    · intro i o d _ _ h; have := h.1; simp [Array.getD] at this
    · intro i _ k h; exact h.elim
    · intro i j _ _ _ k h; exact h.elim
    · intro i o _ h; simp [Array.getD] at h
  · exact Nat.le_trans (List.length_filter_le _ _) (by simp)
theorem nwB.spec {ops : Array Oper} {t : Nat} (h : nwB ops t = true) : ∀ (i : Nat) (o : Oper), ops[i]? = some o → o.dst ≠ some t := by
  intro i o hi hd
  have := List.all_eq_true.1 h o (Array.mem_toList_iff.2 (Array.mem_of_getElem? hi))
  simp [hd] at this
theorem lit (t : Array Value) (n : Nat) (h : t.size = n) : t = ((List.range n).map fun i => t.getD i undef).toArray := by
  apply Array.ext
  · simp [h]
  · intro i h1 h2
    simp [Array.getD, h1]
end
end Go.RegionInvYtcgkeolgflphiaa

/-! Lv -/
namespace Go.Proofs.Ytcgkeolgflphiaa
open Go.RowKit Go.Proofs.YtcgkeolgflphiaaW.PrintWords Go.RegionInvYtcgkeolgflphiaa

inductive Lv where
  | mk (kind n : Int) (kids : List Lv)
namespace Lv
def kind : Lv → Int | mk k _ _ => k
def num : Lv → Int | mk _ n _ => n
def kids : Lv → List Lv | mk _ _ ks => ks
end Lv
theorem Lv.eta (l : Lv) : Lv.mk l.kind l.num l.kids = l := by cases l; rfl

/-- Element i of a row of levels. -/
def CellsAt (w : World) (S : Nat → Prop) (A : Option Addr) (i : Nat) (a b : Int) (A' : Option Addr) (n' c' : Nat) : Prop :=
  ∃ ad, A = some ad ∧ S ad.block ∧ ad.spot = none ∧ w.cell? (ad.add (i * 3)) = some (.int .i64 a) ∧ w.cell? (ad.add (i * 3 + 1)) = some (.int .i64 b) ∧ w.cell? (ad.add (i * 3 + 2)) = some (.slice A' n' c')

/-- The kids of l lie at A, all blocks of S. -/
inductive LvS (w : World) (S : Nat → Prop) : Option Addr → Nat → Lv → Prop
  | mk {A : Option Addr} {c : Nat} {k n : Int} {kids : List Lv} (fA : Nat → Option Addr) (fc : Nat → Nat) (hc : kids.length ≤ c) (hm : c ≤ 9223372036854775807)
      (hcell : ∀ (i : Nat) (x : Lv), kids[i]? = some x → CellsAt w S A i x.kind x.num (fA i) x.kids.length (fc i)) (hk : ∀ (i : Nat) (x : Lv), kids[i]? = some x → LvS w S (fA i) (fc i) x) : LvS w S A c (.mk k n kids)
/-- .. all blocks below B. -/
abbrev LvIn (w : World) (B : Nat) : Option Addr → Nat → Lv → Prop := LvS w fun k => k < B

/-- The value of a level. -/
def lvV (A : Option Addr) (c : Nat) (l : Lv) : Value := .agg #[.int .i64 l.kind, .int .i64 l.num, .slice A l.kids.length c]

theorem cell_same {w w' : World} {p : Addr} (h : w'.heap[p.block]? = w.heap[p.block]?) : w'.cell? p = w.cell? p := by simp [World.cell?, h]
theorem CellsAt.same {w w' : World} {S : Nat → Prop} {A : Option Addr} {i : Nat} {a b : Int} {A' : Option Addr} {n' c' : Nat} (h : CellsAt w S A i a b A' n' c') (hs : ∀ k, S k → k < w.heap.size → w'.heap[k]? = w.heap[k]?) : CellsAt w' S A i a b A' n' c' := by
  obtain ⟨ad, e, hlt, hsp, h1, h2, h3⟩ := h
  have hb : ∀ j, (ad.add j).block = ad.block := fun j => by unfold Addr.add; split <;> rfl
  have hz : ad.block < w.heap.size := by have := World.block_lt_of_cell? w _ h1; rwa [hb] at this
  have key : ∀ j, w'.cell? (ad.add j) = w.cell? (ad.add j) := fun j => cell_same (by rw [hb]; exact hs _ hlt hz)
  exact ⟨ad, e, hlt, hsp, (key _).trans h1, (key _).trans h2, (key _).trans h3⟩
theorem LvS.same {w w' : World} {S : Nat → Prop} {A : Option Addr} {c : Nat} {l : Lv} (h : LvS w S A c l) (hs : ∀ k, S k → k < w.heap.size → w'.heap[k]? = w.heap[k]?) : LvS w' S A c l := by
  induction h with
  | mk fA fc hc hm hcell _ ih => exact .mk fA fc hc hm (fun i x hx => (hcell i x hx).same hs) ih
theorem LvS.mono {w : World} {S S' : Nat → Prop} {A : Option Addr} {c : Nat} {l : Lv} (h : LvS w S A c l) (hS : ∀ k, S k → k < w.heap.size → S' k) : LvS w S' A c l := by
  induction h with
  | mk fA fc hc hm hcell _ ih =>
    refine .mk fA fc hc hm (fun i x hx => ?_) ih
    obtain ⟨ad, e, hlt, hsp, h1, r⟩ := hcell i x hx
    have hb : (ad.add (i * 3)).block = ad.block := by unfold Addr.add; split <;> rfl
    exact ⟨ad, e, hS _ hlt (by have := World.block_lt_of_cell? w _ h1; rwa [hb] at this), hsp, h1, r⟩
theorem LvIn.stay {w w' : World} {B : Nat} {A : Option Addr} {c : Nat} {l : Lv} (h : LvIn w B A c l) (hb : Below B w w') : LvIn w' B A c l := LvS.same h fun k hk _ => hb.block k hk
theorem LvS.later {w w' : World} {S : Nat → Prop} {A : Option Addr} {c : Nat} {l : Lv} (h : LvS w S A c l) (hb : Below w.heap.size w w') : LvS w' S A c l := h.same fun k _ hk => hb.block k hk
theorem LvS.all {w : World} {S : Nat → Prop} {A : Option Addr} {c : Nat} {l : Lv} (h : LvS w S A c l) : LvIn w w.heap.size A c l := h.mono fun _ _ hk => hk
theorem LvS.len {w : World} {S : Nat → Prop} {A : Option Addr} {c : Nat} {l : Lv} (h : LvS w S A c l) : l.kids.length ≤ c ∧ c ≤ 9223372036854775807 := by
  cases h with
  | mk fA fc hc hm _ _ => exact ⟨hc, hm⟩
theorem LvS.kid {w : World} {S : Nat → Prop} {A : Option Addr} {c : Nat} {l : Lv} (h : LvS w S A c l) (i : Nat) (x : Lv) (hx : l.kids[i]? = some x) : ∃ A' c', CellsAt w S A i x.kind x.num A' x.kids.length c' ∧ LvS w S A' c' x := by
  cases h with
  | mk fA fc hc hm hcell hk => exact ⟨fA i, fc i, hcell i x hx, hk i x hx⟩
theorem LvIn.mono {w : World} {B B' : Nat} {A : Option Addr} {c : Nat} {l : Lv} (h : LvIn w B A c l) (hB : B ≤ B') : LvIn w B' A c l := LvS.mono h fun _ hk _ => Nat.lt_of_lt_of_le hk hB

/-! ### A visit of a level and all below it, as long as the visit tells 0 -/
mutual
def walkP (f : Lv → Int → Int → Int × Int) : Lv → Int → Int → Int × Int
  | .mk k n kids, d, s => if (f (.mk k n kids) d s).1 ≠ 0 then f (.mk k n kids) d s else walkKs f kids (d + 1) (f (.mk k n kids) d s).2
def walkKs (f : Lv → Int → Int → Int × Int) : List Lv → Int → Int → Int × Int
  | [], _, s => (0, s)
  | x :: r, d, s => if (walkP f x d s).1 ≠ 0 then walkP f x d s else walkKs f r d (walkP f x d s).2
end
theorem walkP_stop {f : Lv → Int → Int → Int × Int} {l : Lv} {d s : Int} (h : (f l d s).1 ≠ 0) : walkP f l d s = f l d s := by
  cases l; rw [walkP, if_pos h]
theorem walkP_go {f : Lv → Int → Int → Int × Int} {l : Lv} {d s : Int} (h : (f l d s).1 = 0) : walkP f l d s = walkKs f l.kids (d + 1) (f l d s).2 := by
  cases l; rw [walkP, if_neg (by simpa using h)]; rfl
theorem walkKs_stop {f : Lv → Int → Int → Int × Int} {x : Lv} {r : List Lv} {d s : Int} (h : (walkP f x d s).1 ≠ 0) : walkKs f (x :: r) d s = walkP f x d s := by
  rw [walkKs, if_pos h]
theorem walkKs_go {f : Lv → Int → Int → Int × Int} {x : Lv} {r : List Lv} {d s : Int} (h : (walkP f x d s).1 = 0) : walkKs f (x :: r) d s = walkKs f r d (walkP f x d s).2 := by
  rw [walkKs, if_neg (by simpa using h)]
end Go.Proofs.Ytcgkeolgflphiaa

/-! Ops -/
namespace Go.RegionInvYtcgkeolgflphiaa
open Go.RowKit Go.Proofs.YtcgkeolgflphiaaW.PrintWords

section
variable {P : Program} {ops : Array Oper} {Q : Exit → Act → World → Prop} {B : Nat} {Cj : List Nat} {O : Nat → Nat → Prop} {G : Value → World → (Nat → Prop) → Prop} {a : Act} {w : World} {o : Oper}

theorem wanted_none {y : Nat → Option Bool} (h : o.guard = none) : Region.wanted o y = true := by unfold Region.wanted; rw [h]
theorem yielded_of {j d : Nat} {oj : Oper} {c : Bool} (hj : ops[j]? = some oj) (hd : oj.dst = some d) (hv : a.tmps.getD d undef = .bool c) : yielded ops a.tmps j = some c := by
  unfold yielded
  rw [hj, Option.bind_some, hd, Option.bind_some]
  have hlt : d < a.tmps.size := by
    rcases Nat.lt_or_ge d a.tmps.size with h | h
    · exact h
    · simp [Array.getD, Nat.not_lt.2 h, undef] at hv
  rw [Array.getElem?_eq_getElem hlt]
  have : a.tmps[d] = .bool c := by simpa [Array.getD, hlt] using hv
  rw [this]
theorem wanted_of {j d : Nat} {oj : Oper} {b : Bool} (hg : o.guard = some (j, b)) (hj : ops[j]? = some oj) (hd : oj.dst = some d) (hv : a.tmps.getD d undef = .bool b) : Region.wanted o (yielded ops a.tmps) = true := by
  unfold Region.wanted; rw [hg]; simp only []; rw [yielded_of hj hd hv]; simp
theorem unwanted_of {j d : Nat} {oj : Oper} {b c : Bool} (hg : o.guard = some (j, b)) (hj : ops[j]? = some oj) (hd : oj.dst = some d) (hv : a.tmps.getD d undef = .bool c) (hne : c ≠ b) : Region.wanted o (yielded ops a.tmps) = false := by
  unfold Region.wanted; rw [hg]; simp only []; rw [yielded_of hj hd hv]; simp [hne]
theorem unwanted_of_skipped {j d : Nat} {oj : Oper} {b : Bool} (hg : o.guard = some (j, b)) (hj : ops[j]? = some oj) (hd : oj.dst = some d) (hv : a.tmps.getD d undef = undef) : Region.wanted o (yielded ops a.tmps) = false := by
  unfold Region.wanted; rw [hg]; simp only []
  have : yielded ops a.tmps j = none := by
    unfold yielded
    rw [hj, Option.bind_some, hd, Option.bind_some]
    rcases Nat.lt_or_ge d a.tmps.size with h | h
    · rw [Array.getElem?_eq_getElem h]
      have : a.tmps[d] = undef := by simpa [Array.getD, h] using hv
      rw [this]; rfl
    · rw [Array.getElem?_eq_none h]
  rw [this]; simp

theorem ob_skip (hw : Region.wanted o (yielded ops a.tmps) = false) (hG : G undef w fun _ => False) : Owes P ops Q Cj O G o a w := by
  unfold Owes; rw [hw]; exact hG
theorem ob_run {v : Value} (hw : Region.wanted o (yielded ops a.tmps) = true) (hr : (execOp a.eval o).run P w = .ok (.value v) w) (hG : G v w fun _ => False) : Owes P ops Q Cj O G o a w := by
  unfold Owes; rw [if_pos hw]; unfold Oper.wp; rw [hr]
  exact ⟨v, _, rfl, hG, Chg.refl _ _, fun _ h => h.elim⟩
theorem ob_runO {v : Value} (O' : Nat → Prop) (hw : Region.wanted o (yielded ops a.tmps) = true) (hr : (execOp a.eval o).run P w = .ok (.value v) w) (hG : G v w O') (hO : ∀ k, O' k → ∃ i ∈ Cj, O i k) : Owes P ops Q Cj O G o a w := by
  unfold Owes; rw [if_pos hw]; unfold Oper.wp; rw [hr]
  exact ⟨v, O', rfl, hG, Chg.refl _ _, fun k h => .inl (hO k h)⟩
theorem ob_new {v : Value} {w' : World} (O' : Nat → Prop) (hw : Region.wanted o (yielded ops a.tmps) = true) (hr : (execOp a.eval o).run P w = .ok (.value v) w') (hb : Below w.heap.size w w') (hG : G v w' O')
    (hO : ∀ k, O' k → (∃ i ∈ Cj, O i k) ∨ (w.heap.size ≤ k ∧ k < w'.heap.size)) : Owes P ops Q Cj O G o a w := by
  unfold Owes; rw [if_pos hw]; unfold Oper.wp; rw [hr]
  exact ⟨v, O', rfl, hG, Chg.of_below hb, hO⟩
theorem ob_move {x : Operand} {v : Value} (ho : o.op = .move x) (hx : a.eval x = v) (hw : Region.wanted o (yielded ops a.tmps) = true) (hG : G v w fun _ => False) : Owes P ops Q Cj O G o a w :=
  ob_run hw (by unfold execOp; rw [ho]; simp only []; rw [hx]; rfl) hG
theorem ob_assign {x : Operand} {v : Value} (ho : o.op = .assign x) (hx : a.eval x = v) (hw : Region.wanted o (yielded ops a.tmps) = true) (hG : G v w fun _ => False) : Owes P ops Q Cj O G o a w :=
  ob_run hw (by unfold execOp; rw [ho]; simp only []; rw [hx]; rfl) hG
theorem ob_assignO {x : Operand} {v : Value} (O' : Nat → Prop) (ho : o.op = .assign x) (hx : a.eval x = v) (hw : Region.wanted o (yielded ops a.tmps) = true) (hG : G v w O') (hO : ∀ k, O' k → ∃ i ∈ Cj, O i k) : Owes P ops Q Cj O G o a w :=
  ob_runO O' hw (by unfold execOp; rw [ho]; simp only []; rw [hx]; rfl) hG hO
theorem ob_moveO {x : Operand} {v : Value} (O' : Nat → Prop) (ho : o.op = .move x) (hx : a.eval x = v) (hw : Region.wanted o (yielded ops a.tmps) = true) (hG : G v w O') (hO : ∀ k, O' k → ∃ i ∈ Cj, O i k) : Owes P ops Q Cj O G o a w :=
  ob_runO O' hw (by unfold execOp; rw [ho]; simp only []; rw [hx]; rfl) hG hO
theorem ob_pick {c x y : Operand} {b : Bool} {v : Value} (ho : o.op = .pick c x y) (hc : a.eval c = .bool b) (hx : a.eval (if b then x else y) = v) (hw : Region.wanted o (yielded ops a.tmps) = true) (hG : G v w fun _ => False) : Owes P ops Q Cj O G o a w :=
  ob_run hw (by
    unfold execOp; rw [ho]; simp only []; rw [hc]
    cases b <;> simp_all [asBool]) hG
theorem ob_bin {p : BinOp} {t t' : TypeId} {x y : Operand} {vx vy v : Value} (ho : o.op = .binOp p t x y t') (hx : a.eval x = vx) (hy : a.eval y = vy) (hr : (binOp p t vx vy).run P w = .ok v w)
    (hp : p ≠ .shl ∧ p ≠ .shr ∧ p ≠ .eql ∧ p ≠ .neq) (hw : Region.wanted o (yielded ops a.tmps) = true) (hG : G v w fun _ => False) : Owes P ops Q Cj O G o a w :=
  ob_run hw (by
    obtain ⟨h1, h2, h3, h4⟩ := hp
    unfold execOp; rw [ho]; simp only []; rw [hx, hy]
    cases p <;> simp_all [eqGuard]) hG
theorem run_geqB {t : TypeId} {k : IntKind} (x y : Int) (b : Bool) (h : decide (y ≤ x) = b) : (binOp .geq t (.int k x) (.int k y)).run P w = .ok (.bool b) w := by subst h; simp [go_sem]
theorem run_leqB {t : TypeId} {k : IntKind} (x y : Int) (b : Bool) (h : decide (x ≤ y) = b) : (binOp .leq t (.int k x) (.int k y)).run P w = .ok (.bool b) w := by subst h; simp [go_sem]
theorem run_lssB {t : TypeId} {k : IntKind} (x y : Int) (b : Bool) (h : decide (x < y) = b) : (binOp .lss t (.int k x) (.int k y)).run P w = .ok (.bool b) w := by subst h; simp [go_sem]
theorem run_gtrB {t : TypeId} {k : IntKind} (x y : Int) (b : Bool) (h : decide (y < x) = b) : (binOp .gtr t (.int k x) (.int k y)).run P w = .ok (.bool b) w := by subst h; simp [go_sem]
theorem ob_eqlInt {t t' : TypeId} {k : IntKind} {x y : Operand} {m n : Int} (b : Bool) (ho : o.op = .binOp .eql t x y t') (hx : a.eval x = .int k m) (hy : a.eval y = .int k n) (hb : (m == n) = b)
    (hw : Region.wanted o (yielded ops a.tmps) = true) (hG : G (.bool b) w fun _ => False) : Owes P ops Q Cj O G o a w :=
  ob_run hw (by unfold execOp; rw [ho]; simp only []; rw [hx, hy]; subst hb; simp [go_sem]) hG
theorem ob_neqInt {t t' : TypeId} {k : IntKind} {x y : Operand} {m n : Int} (b : Bool) (ho : o.op = .binOp .neq t x y t') (hx : a.eval x = .int k m) (hy : a.eval y = .int k n) (hb : (m != n) = b)
    (hw : Region.wanted o (yielded ops a.tmps) = true) (hG : G (.bool b) w fun _ => False) : Owes P ops Q Cj O G o a w :=
  ob_run hw (by unfold execOp; rw [ho]; simp only []; rw [hx, hy]; subst hb; simp [go_sem]) hG
theorem ob_eqlStr {t t' : TypeId} {x y : Operand} {m n : ByteArray} (ho : o.op = .binOp .eql t x y t') (hx : a.eval x = .string m) (hy : a.eval y = .string n) (hb : m = n)
    (hw : Region.wanted o (yielded ops a.tmps) = true) (hG : G (.bool true) w fun _ => False) : Owes P ops Q Cj O G o a w :=
  ob_run hw (by unfold execOp; rw [ho]; simp only []; rw [hx, hy]; subst hb; simp [go_sem]) hG
theorem ob_neqStr {t t' : TypeId} {x y : Operand} {m n : ByteArray} (ho : o.op = .binOp .neq t x y t') (hx : a.eval x = .string m) (hy : a.eval y = .string n) (hb : m = n)
    (hw : Region.wanted o (yielded ops a.tmps) = true) (hG : G (.bool false) w fun _ => False) : Owes P ops Q Cj O G o a w :=
  ob_run hw (by unfold execOp; rw [ho]; simp only []; rw [hx, hy]; subst hb; simp [go_sem]) hG
theorem ob_eqlBool {t t' : TypeId} {x y : Operand} {m n : Bool} (b : Bool) (ho : o.op = .binOp .eql t x y t') (hx : a.eval x = .bool m) (hy : a.eval y = .bool n) (hu : P.underlying t = some .bool) (hb : (m == n) = b)
    (hw : Region.wanted o (yielded ops a.tmps) = true) (hG : G (.bool b) w fun _ => False) : Owes P ops Q Cj O G o a w :=
  ob_run hw (by unfold execOp; rw [ho]; simp only []; rw [hx, hy]; subst hb; simp [go_sem, run_eql_bool w t m n hu]) hG
theorem ob_loadInt {t : TypeId} {k : IntKind} {x : Operand} {p : Addr} {n : Int} (ho : o.op = .load t x) (hx : a.eval x = .pointer (some p)) (hu : P.underlying t = some (.int k)) (hc : w.cell? p = some (.int k n)) (hw : Region.wanted o (yielded ops a.tmps) = true) (hG : G (.int k n) w fun _ => False) : Owes P ops Q Cj O G o a w :=
  ob_run hw (by unfold execOp; rw [ho]; simp only []; rw [hx]; simp [go_sem, isAgg, run_underlying hu, hc]) hG
theorem ob_len {t e : TypeId} {x : Operand} {A : Option Addr} {n c : Nat} (ho : o.op = .call { callee := .builtin .len, args := #[x], argTypes := #[t] }) (hx : a.eval x = .slice A n c) (hu : P.underlying t = some (.slice e))
    (hw : Region.wanted o (yielded ops a.tmps) = true) (hG : G (.int .i64 n) w fun _ => False) : Owes P ops Q Cj O G o a w :=
  ob_run hw (by
    unfold execOp; rw [ho]
    simp only [resolve, invoke, builtin, Sem.run_bind, Sem.run_pure, Result.andThen_ok, List.map_toArray, List.map_cons, List.map_nil, hx]
    simp [go_sem, Builtin.len_, run_underlying hu, goInt]) hG
theorem ob_extract {x : Operand} {i : Nat} {vs : Array Value} {v : Value} (ho : o.op = .extract x i) (hx : a.eval x = .tuple vs) (hi : vs[i]? = some v) (hw : Region.wanted o (yielded ops a.tmps) = true) (hG : G v w fun _ => False) : Owes P ops Q Cj O G o a w :=
  ob_run hw (by unfold execOp; rw [ho]; simp only []; rw [hx]; simp [go_sem, hi]) hG
theorem ob_convert {s d : TypeId} {x : Operand} {vx v : Value} (ho : o.op = .convert s d x) (hx : a.eval x = vx) (hr : (convert s d vx).run P w = .ok v w) (hw : Region.wanted o (yielded ops a.tmps) = true) (hG : G v w fun _ => False) : Owes P ops Q Cj O G o a w :=
  ob_run hw (by unfold execOp; rw [ho]; simp only []; rw [hx]; simp [hr]) hG
theorem ob_sliceTo {t : TypeId} {x y : Operand} {vx vy v : Value} (hu : P.underlying t = some (.slice (P.elem t))) (ho : o.op = .slice t x none (some y) none) (hx : a.eval x = vx) (hy : a.eval y = vy) (hr : (Instr.slice t vx none (some vy) none).run P w = .ok v w) (hw : Region.wanted o (yielded ops a.tmps) = true) (hG : G v w fun _ => False) : Owes P ops Q Cj O G o a w :=
  ob_run hw (by unfold execOp; rw [ho]; simp only [Option.map_none, Option.map_some]; rw [hx, hy]; simp [run_sliceAt_slice w t _ _ _ _ hu, hr]) hG
theorem ob_sliceFrom {t : TypeId} {x y : Operand} {vx vy v : Value} (hu : P.underlying t = some (.slice (P.elem t))) (ho : o.op = .slice t x (some y) none none) (hx : a.eval x = vx) (hy : a.eval y = vy) (hr : (Instr.slice t vx (some vy) none none).run P w = .ok v w) (hw : Region.wanted o (yielded ops a.tmps) = true) (hG : G v w fun _ => False) : Owes P ops Q Cj O G o a w :=
  ob_run hw (by unfold execOp; rw [ho]; simp only [Option.map_none, Option.map_some]; rw [hx, hy]; simp [run_sliceAt_slice w t _ _ _ _ hu, hr]) hG
theorem ob_call {f : FuncId} {fn : Func} {ars : Array Operand} {ts : Array TypeId} (args : Array Value) (hf : P.funcs[f]? = some fn) (hname : (fn.name == "runtime.NumGoroutine") = false) (hb : fn.body.isSome = true)
    (ho : o.op = .call { callee := .value (.func f), args := ars, argTypes := ts }) (hargs : ars.toList.map a.eval = args.toList) (hw : Region.wanted o (yielded ops a.tmps) = true)
    (hc : Calls P f args w fun e w' => ∃ v O', e = .returned v ∧ G v w' O' ∧ Chg (fun k => ∃ i ∈ Cj, O i k) w w' ∧ ∀ k, O' k → (∃ i ∈ Cj, O i k) ∨ (w.heap.size ≤ k ∧ k < w'.heap.size)) : Owes P ops Q Cj O G o a w := by
  unfold Owes; rw [if_pos hw]; unfold Oper.wp
  have hr : (execOp a.eval o).run P w = .ok (.enter f args) w := by
    have he := Go.Proofs.YtcgkeolgflphiaaW.PrintLast.enters_ hf hname hb args w
    have hargs' : ars.map a.eval = args := Array.toList_inj.1 (by simpa using hargs)
    unfold execOp
    simp [ho, resolve, Deferred.ofValue, invoke, Act.eval, hargs', he]
  rw [hr]
  refine hc.mono ?_
  rintro e w' ⟨v, O', rfl, hG, hC, hO⟩
  exact ⟨v, O', rfl, hG, hC, hO⟩
/-- By a law of the walk. -/
theorem ob_list (hw : Region.wanted o (yielded ops a.tmps) = true)
    (h : wpList P ops (fun e a' w' => e = .normal ∧ ∃ v O', a' = a.put o.dst v ∧ G v w' O' ∧ Chg (fun k => ∃ i ∈ Cj, O i k) w w' ∧ ∀ k, O' k → (∃ i ∈ Cj, O i k) ∨ (w.heap.size ≤ k ∧ k < w'.heap.size)) [{ o with guard := none }] a w) : Owes P ops Q Cj O G o a w := by
  unfold Owes; rw [if_pos hw]
  unfold wpList at h
  rw [if_pos (wanted_none rfl)] at h
  have he : execOp a.eval { o with guard := none } = execOp a.eval o := by cases o; rfl
  rcases h with h | ⟨_, _, _, h⟩
  · unfold Oper.wp at *
    rw [he] at h
    generalize (execOp a.eval o).run P w = r at *
    cases r with
    | ok n w' =>
      cases n with
      | value v => exact h.2
      | skip => exact h.2
      | defer d => exact h.2
      | enter f args =>
        refine Calls.mono h fun e w'' he => ?_
        cases e with
        | returned v => exact he.2
        | panicked c => exact absurd he.1 (by simp)
        | outgrown => obtain ⟨_, _, h, _⟩ := he; exact absurd h (by simp)
      | row r args => exact Rows.mono h fun _ _ he => he.2
      | _ => simp only [Oper.upon] at h
    | halt x w' =>
      cases x <;> simp only [Oper.upon] at h
      exact absurd h.1 (by simp)
  · exact absurd h.1 (by simp)

theorem stable_det (V : Value) : Stable B fun v _ _ => v = V := fun _ _ _ _ h _ _ => h
theorem stable_pure {p : Value → Prop} : Stable B fun v _ _ => p v := fun _ _ _ _ h _ _ => h
/-- A row of the call's own. -/
def OwnO (B : Nat) (e : TypeId) (size : Nat) (n : Nat) (xs : List Value) (v : Value) (w : World) (O : Nat → Prop) : Prop := w.ownsRow B e size v n xs ∧ ∀ k, v.ownBlock = some k → O k
theorem ownsRow_same {w w' : World} {base : Nat} {e : TypeId} {size n : Nat} {v : Value} {xs : List Value} (h : w.ownsRow base e size v n xs) (hs : ∀ k, v.ownBlock = some k → w'.heap[k]? = w.heap[k]?) : w'.ownsRow base e size v n xs := by
  obtain ⟨h1, h2⟩ := h
  refine ⟨h1, ?_⟩
  rcases h2 with h2 | ⟨g, cap, cur, hv, hg, hh, r⟩
  · exact .inl h2
  · refine .inr ⟨g, cap, cur, hv, hg, ?_, r⟩
    rw [hs g (by rw [hv]; rfl)]
    exact hh
theorem ob_callFresh {f : FuncId} {fn : Func} {ars : Array Operand} {ts : Array TypeId} {e : TypeId} {size : Nat} {n : Nat} {xs : List Value} (args : Array Value) (hf : P.funcs[f]? = some fn) (hname : (fn.name == "runtime.NumGoroutine") = false) (hb : fn.body.isSome = true)
    (ho : o.op = .call { callee := .value (.func f), args := ars, argTypes := ts }) (hargs : ars.toList.map a.eval = args.toList) (hw : Region.wanted o (yielded ops a.tmps) = true) (hB : B ≤ w.heap.size)
    (hc : Calls P f args w fun e' w' => ∃ v, e' = .returned v ∧ w'.ownsRow w.heap.size e size v n xs ∧ Below w.heap.size w w') : Owes P ops Q Cj O (OwnO B e size n xs) o a w := by
  refine ob_call args hf hname hb ho hargs hw (hc.mono ?_)
  rintro e' w' ⟨v, rfl, h, hb⟩
  exact ⟨v, fun k => v.ownBlock = some k, rfl, ⟨own_weaken h hB, fun _ h => h⟩, Chg.of_below hb, fun k hk => .inr ⟨own_base h k hk, own_lt h k hk⟩⟩
theorem ob_callGrew {f : FuncId} {fn : Func} {ars : Array Operand} {ts : Array TypeId} {e : TypeId} {size : Nat} {n : Nat} {xs : List Value} (i : Nat) (v0 : Value) (args : Array Value) (hf : P.funcs[f]? = some fn) (hname : (fn.name == "runtime.NumGoroutine") = false) (hb : fn.body.isSome = true)
    (ho : o.op = .call { callee := .value (.func f), args := ars, argTypes := ts }) (hargs : ars.toList.map a.eval = args.toList) (hw : Region.wanted o (yielded ops a.tmps) = true) (hi : i ∈ Cj) (hO : ∀ k, v0.ownBlock = some k → O i k)
    (hc : Calls P f args w fun e' w' => ∃ v, e' = .returned v ∧ w'.ownsRow B e size v n xs ∧ Grew v0 v w w') : Owes P ops Q Cj O (OwnO B e size n xs) o a w := by
  refine ob_call args hf hname hb ho hargs hw (hc.mono ?_)
  rintro e' w' ⟨v, rfl, h, hg⟩
  refine ⟨v, fun k => v.ownBlock = some k, rfl, ⟨h, fun _ h => h⟩, hg.1.mono fun k hk => ⟨i, hi, hO k hk⟩, fun k hk => ?_⟩
  rcases hg.2 k hk with h' | h'
  · exact .inl ⟨i, hi, hO k h'⟩
  · exact .inr ⟨h', own_lt h k hk⟩
theorem ob_listGrew {e : TypeId} {size : Nat} {n : Nat} {xs : List Value} (i : Nat) (v0 : Value) (hw : Region.wanted o (yielded ops a.tmps) = true) (hi : i ∈ Cj) (hO : ∀ k, v0.ownBlock = some k → O i k)
    (h : ∀ Q', (∀ v1 w1, w1.ownsRow B e size v1 n xs → w.grownBy w1 v0.ownBlock → (v1.ownBlock = v0.ownBlock ∨ ∃ b, v1.ownBlock = some b ∧ w.heap.size ≤ b) → wpList P ops Q' [] (a.put o.dst v1) w1) → wpList P ops Q' [{ o with guard := none }] a w) :
    Owes P ops Q Cj O (OwnO B e size n xs) o a w := by
  refine ob_list hw (h _ fun v1 w1 ho hg hat => ⟨rfl, v1, fun k => v1.ownBlock = some k, rfl, ⟨ho, fun _ h => h⟩, (Grew.of_append hg hat).1.mono fun k hk => ⟨i, hi, hO k hk⟩, fun k hk => ?_⟩)
  rcases (Grew.of_append hg hat).2 k hk with h' | h'
  · exact .inl ⟨i, hi, hO k h'⟩
  · exact .inr ⟨h', own_lt ho k hk⟩
theorem ob_empty {e : TypeId} (hr : (execOp a.eval o).run P w = .ok (.value (.slice (some ⟨w.heap.size, 0, none⟩) 0 0)) (w.alloc (.cells #[] e)))
    (hw : Region.wanted o (yielded ops a.tmps) = true) (hB : B ≤ w.heap.size) : Owes P ops Q Cj O (OwnO B e 1 0 []) o a w := by
  refine ob_new (fun k => k = w.heap.size) hw hr ((Below.refl _ _).alloc (Nat.le_refl _) _) ⟨?_, fun k hk => ?_⟩ (fun k hk => .inr ⟨by omega, by simp; omega⟩)
  · have := World.ownsRow_lit (base := B) (e := e) (size := 1) w #[] 0 hB (by simp [maxLen]) (by simp)
    simpa using this
  · simp [Value.ownBlock] at hk; omega
theorem stable_own (e : TypeId) (size n : Nat) (xs : List Value) : Stable B (OwnO B e size n xs) := by
  rintro v w w' O ⟨h, hO⟩ hz hk
  exact ⟨ownsRow_same h fun k hv => hk k (own_lt h k hv) (.inr (hO k hv)), hO⟩
end
end Go.RegionInvYtcgkeolgflphiaa

/-! LvA -/
namespace Go.Proofs.Ytcgkeolgflphiaa
open Go.RowKit Go.Proofs.YtcgkeolgflphiaaW.PrintWords Go.RegionInvYtcgkeolgflphiaa

def arityP (k : Int) : Int := if k = 1 ∨ k = 2 then 0 else if k = 3 then 1 else if k = 4 then 2 else -1
theorem arity_12 {k : Int} (h : k = 1 ∨ k = 2) : arityP k = 0 := by unfold arityP; rw [if_pos h]
theorem arity_3 : arityP 3 = 1 := by decide
theorem arity_4 : arityP 4 = 2 := by decide
theorem arity_no {k : Int} (h1 : k ≠ 1) (h2 : k ≠ 2) (h3 : k ≠ 3) (h4 : k ≠ 4) : arityP k = -1 := by unfold arityP; rw [if_neg (by omega), if_neg h3, if_neg h4]

set_option maxHeartbeats 2000000 in
theorem kids_calls (k : Int) (w : World) : Calls Try.prog 118 #[.int .i64 k] w fun e w' => e = .returned (.int .i64 (arityP k)) ∧ w' = w := by
  go_enter Try.func118, Try.ntmps118
  by_cases h1 : k = 1
  · have H := Aside0.mk (arity_12 (.inl h1))
    have e1 : (k == 1) = true := by simp [h1]
    clear h1
    go_wp2
    go_ret
    exact ⟨by rw [H.out]; rfl, rfl⟩
  · have e1 : (k == 1) = false := by simp [h1]
    by_cases h2 : k = 2
    · have H := Aside0.mk (arity_12 (.inr h2))
      have e2 : (k == 2) = true := by simp [h2]
      clear h1 h2
      go_wp2
      go_ret
      exact ⟨by rw [H.out]; rfl, rfl⟩
    · have e2 : (k == 2) = false := by simp [h2]
      by_cases h3 : k = 3
      · have H := Aside0.mk (show arityP k = 1 by rw [h3]; decide)
        have e3 : (k == 3) = true := by simp [h3]
        clear h1 h2 h3
        go_wp2
        go_ret
        exact ⟨by rw [H.out]; rfl, rfl⟩
      · have e3 : (k == 3) = false := by simp [h3]
        by_cases h4 : k = 4
        · have H := Aside0.mk (show arityP k = 2 by rw [h4]; decide)
          have e4 : (k == 4) = true := by simp [h4]
          clear h1 h2 h3 h4
          go_wp2
          go_ret
          exact ⟨by rw [H.out]; rfl, rfl⟩
        · have H := Aside0.mk (arity_no h1 h2 h3 h4)
          have e4 : (k == 4) = false := by simp [h4]
          clear h1 h2 h3 h4
          go_wp2
          go_ret
          exact ⟨by rw [H.out]; rfl, rfl⟩

def rightP (l : Lv) (most mostV : Int) : Bool :=
  if (l.kids.length : Int) ≠ arityP l.kind then false else
  if l.kind = 1 then decide (0 ≤ l.num ∧ l.num ≤ most) else if l.kind = 3 then decide (1 ≤ l.num ∧ l.num ≤ most) else if l.kind = 2 then decide (0 ≤ l.num ∧ l.num ≤ mostV) else true

theorem right_bad {k n : Int} {ks : List Lv} {most mostV : Int} (h : (ks.length : Int) ≠ arityP k) : rightP (.mk k n ks) most mostV = false := by unfold rightP; exact if_pos h
theorem right_num {n : Int} {ks : List Lv} {most mostV : Int} (h : (ks.length : Int) = arityP 1) : rightP (.mk 1 n ks) most mostV = decide (0 ≤ n ∧ n ≤ most) := by
  show (if (ks.length : Int) ≠ arityP 1 then false else decide (0 ≤ n ∧ n ≤ most)) = _
  exact if_neg (fun x => x h)
theorem right_succ {n : Int} {ks : List Lv} {most mostV : Int} (h : (ks.length : Int) = arityP 3) : rightP (.mk 3 n ks) most mostV = decide (1 ≤ n ∧ n ≤ most) := by
  show (if (ks.length : Int) ≠ arityP 3 then false else decide (1 ≤ n ∧ n ≤ most)) = _
  exact if_neg (fun x => x h)
theorem right_var {n : Int} {ks : List Lv} {most mostV : Int} (h : (ks.length : Int) = arityP 2) : rightP (.mk 2 n ks) most mostV = decide (0 ≤ n ∧ n ≤ mostV) := by
  show (if (ks.length : Int) ≠ arityP 2 then false else decide (0 ≤ n ∧ n ≤ mostV)) = _
  exact if_neg (fun x => x h)
theorem right_else {k n : Int} {ks : List Lv} {most mostV : Int} (h : (ks.length : Int) = arityP k) (h1 : k ≠ 1) (h2 : k ≠ 2) (h3 : k ≠ 3) : rightP (.mk k n ks) most mostV = true := by
  unfold rightP
  exact (if_neg (fun x => x h)).trans ((if_neg h1).trans ((if_neg h3).trans (if_neg h2)))

set_option maxHeartbeats 2000000 in
theorem right_calls (A : Option Addr) (c : Nat) (l : Lv) (most mostV : Int) (w : World) (hc : l.kids.length ≤ 9223372036854775807) :
    Calls Try.prog 102 #[lvV A c l, .int .i64 most, .int .i64 mostV] w fun e w' => e = .returned (.bool (rightP l most mostV)) ∧ Below w.heap.size w w' := by
  obtain ⟨k, n, ks⟩ := l
  unfold lvV
  simp only [Lv.kind, Lv.num, Lv.kids] at hc ⊢
  obtain ⟨m, hm⟩ : ∃ m, m = ks.length := ⟨_, rfl⟩
  rw [← hm] at hc ⊢
  go_enter Try.func102, Try.ntmps102
  by_cases h0 : (m : Int) = arityP k
  · have e0 : ((m : Int) != arityP k) = false := by simp [h0]
    by_cases h1 : k = 1
    · have e1 : (k == 1) = true := by simp [h1]
      have H := Aside0.mk (show rightP (.mk k n ks) most mostV = decide (0 ≤ n ∧ n ≤ most) by rw [h1]; exact right_num (by rw [← hm, h0, h1]))
      clear h0 h1 hm
      by_cases q1 : 0 ≤ n
      · by_cases q2 : n ≤ most
        · go_wp2
          go_quiet ((go_at_call 118; exact Calls.quiet_of_same (kids_calls _ _)))
          go_wp2
          go_ret
          exact ⟨congrArg (fun b => Ending.returned (.bool b)) (H.out ▸ by first | exact (decide_eq_false (by omega)).symm | exact (decide_eq_true (by omega)).symm | exact decide_eq_decide.2 (by omega)), pw_below_drewN (below_alloc (Below.refl _ _) _) _⟩
        · go_wp2
          go_quiet ((go_at_call 118; exact Calls.quiet_of_same (kids_calls _ _)))
          go_wp2
          go_ret
          exact ⟨congrArg (fun b => Ending.returned (.bool b)) (H.out ▸ by first | exact (decide_eq_false (by omega)).symm | exact (decide_eq_true (by omega)).symm | exact decide_eq_decide.2 (by omega)), pw_below_drewN (below_alloc (Below.refl _ _) _) _⟩
      · go_wp2
        go_quiet ((go_at_call 118; exact Calls.quiet_of_same (kids_calls _ _)))
        go_wp2
        go_ret
        exact ⟨congrArg (fun b => Ending.returned (.bool b)) (H.out ▸ by first | exact (decide_eq_false (by omega)).symm | exact (decide_eq_true (by omega)).symm | exact decide_eq_decide.2 (by omega)), pw_below_drewN (below_alloc (Below.refl _ _) _) _⟩
    · have e1 : (k == 1) = false := by simp [h1]
      by_cases h3 : k = 3
      · have e3 : (k == 3) = true := by simp [h3]
        have H := Aside0.mk (show rightP (.mk k n ks) most mostV = decide (1 ≤ n ∧ n ≤ most) by rw [h3]; exact right_succ (by rw [← hm, h0, h3]))
        clear h0 h1 h3 hm
        by_cases q1 : 1 ≤ n
        · by_cases q2 : n ≤ most
          · go_wp2
            go_quiet ((go_at_call 118; exact Calls.quiet_of_same (kids_calls _ _)))
            go_wp2
            go_ret
            exact ⟨congrArg (fun b => Ending.returned (.bool b)) (H.out ▸ by first | exact (decide_eq_false (by omega)).symm | exact (decide_eq_true (by omega)).symm | exact decide_eq_decide.2 (by omega)), pw_below_drewN (below_alloc (Below.refl _ _) _) _⟩
          · go_wp2
            go_quiet ((go_at_call 118; exact Calls.quiet_of_same (kids_calls _ _)))
            go_wp2
            go_ret
            exact ⟨congrArg (fun b => Ending.returned (.bool b)) (H.out ▸ by first | exact (decide_eq_false (by omega)).symm | exact (decide_eq_true (by omega)).symm | exact decide_eq_decide.2 (by omega)), pw_below_drewN (below_alloc (Below.refl _ _) _) _⟩
        · go_wp2
          go_quiet ((go_at_call 118; exact Calls.quiet_of_same (kids_calls _ _)))
          go_wp2
          go_ret
          exact ⟨congrArg (fun b => Ending.returned (.bool b)) (H.out ▸ by first | exact (decide_eq_false (by omega)).symm | exact (decide_eq_true (by omega)).symm | exact decide_eq_decide.2 (by omega)), pw_below_drewN (below_alloc (Below.refl _ _) _) _⟩
      · have e3 : (k == 3) = false := by simp [h3]
        by_cases h2 : k = 2
        · have e2 : (k == 2) = true := by simp [h2]
          have H := Aside0.mk (show rightP (.mk k n ks) most mostV = decide (0 ≤ n ∧ n ≤ mostV) by rw [h2]; exact right_var (by rw [← hm, h0, h2]))
          clear h0 h1 h3 h2 hm
          by_cases q1 : 0 ≤ n
          · by_cases q2 : n ≤ mostV
            · go_wp2
              go_quiet ((go_at_call 118; exact Calls.quiet_of_same (kids_calls _ _)))
              go_wp2
              go_ret
              exact ⟨congrArg (fun b => Ending.returned (.bool b)) (H.out ▸ by first | exact (decide_eq_false (by omega)).symm | exact (decide_eq_true (by omega)).symm | exact decide_eq_decide.2 (by omega)), pw_below_drewN (below_alloc (Below.refl _ _) _) _⟩
            · go_wp2
              go_quiet ((go_at_call 118; exact Calls.quiet_of_same (kids_calls _ _)))
              go_wp2
              go_ret
              exact ⟨congrArg (fun b => Ending.returned (.bool b)) (H.out ▸ by first | exact (decide_eq_false (by omega)).symm | exact (decide_eq_true (by omega)).symm | exact decide_eq_decide.2 (by omega)), pw_below_drewN (below_alloc (Below.refl _ _) _) _⟩
          · go_wp2
            go_quiet ((go_at_call 118; exact Calls.quiet_of_same (kids_calls _ _)))
            go_wp2
            go_ret
            exact ⟨congrArg (fun b => Ending.returned (.bool b)) (H.out ▸ by first | exact (decide_eq_false (by omega)).symm | exact (decide_eq_true (by omega)).symm | exact decide_eq_decide.2 (by omega)), pw_below_drewN (below_alloc (Below.refl _ _) _) _⟩
        · have e2 : (k == 2) = false := by simp [h2]
          have H := Aside0.mk (right_else (n := n) (ks := ks) (most := most) (mostV := mostV) (by rw [← hm]; exact h0) h1 h2 h3)
          clear h0 h1 h2 h3 hm
          go_wp2
          go_quiet ((go_at_call 118; exact Calls.quiet_of_same (kids_calls _ _)))
          go_wp2
          go_ret
          exact ⟨by rw [H.out]; rfl, pw_below_drewN (below_alloc (Below.refl _ _) _) _⟩
  · have e0 : ((m : Int) != arityP k) = true := by simp [h0]
    have H := Aside0.mk (right_bad (n := n) (ks := ks) (most := most) (mostV := mostV) (by rw [← hm]; exact h0))
    clear h0 hm
    go_wp2
    go_quiet ((go_at_call 118; exact Calls.quiet_of_same (kids_calls _ _)))
    go_wp2
    go_ret
    exact ⟨by rw [H.out]; rfl, pw_below_drewN (below_alloc (Below.refl _ _) _) _⟩
end Go.Proofs.Ytcgkeolgflphiaa

/-! LvS -/
namespace Go.Proofs.Ytcgkeolgflphiaa
open Go.RowKit Go.Proofs.YtcgkeolgflphiaaW.PrintWords Go.RegionInvYtcgkeolgflphiaa

theorem chg_set (w : World) (g j : Nat) (v : Value) : Chg (fun k => k = g) w (w.setCell ⟨g, j, none⟩ v) :=
  ⟨rfl, rfl, rfl, by simp [World.setCell], fun i _ hne => Below.heap_setCell w ⟨g, j, none⟩ v i hne⟩
theorem chg_trans {S : Nat → Prop} {a w w' : World} (h : Chg S a w) (k : Chg S w w') : Chg S a w' :=
  ⟨k.os.trans h.os, k.tape.trans h.tape, k.output.trans h.output, Nat.le_trans h.size k.size, fun i hi hs => (k.block i (Nat.lt_of_lt_of_le hi h.size) hs).trans (h.block i hi hs)⟩
theorem chg_alloc (S : Nat → Prop) (w : World) (o : Obj) : Chg S w (w.alloc o) := Chg.of_below ((Below.refl _ _).alloc (Nat.le_refl _) _)
theorem chg_drewN {S : Nat → Prop} {w w' : World} (h : Chg S w w') (n : Nat) : Chg S w (w'.drewN n) := ⟨h.os, h.tape, h.output, h.size, h.block⟩
/-- A box of one number. -/
def NumAt (w : World) (g : Nat) (s : Int) : Prop := w.heap[g]? = some (.cells #[.int .i64 s] 3 (0, 0))
theorem NumAt.cell {w : World} {g : Nat} {s : Int} (h : NumAt w g s) : w.cell? ⟨g, 0, none⟩ = some (.int .i64 s) := by
  rw [cell_of_row w g 0 _ 3 (0, 0) h]; rfl
theorem NumAt.set {w : World} {g : Nat} {s : Int} (h : NumAt w g s) (x : Int) : NumAt (w.setCell ⟨g, 0, none⟩ (.int .i64 x)) g x := blk_put h 0 _ rfl
theorem NumAt.below {w w' : World} {g : Nat} {s : Int} (h : NumAt w g s) (hb : Below w.heap.size w w') : NumAt w' g s := blk_below h hb
theorem NumAt.alloc {w : World} {g : Nat} {s : Int} (h : NumAt w g s) (o : Obj) : NumAt (w.alloc o) g s := blk_alloc h o

def sndF (l : Lv) (d s : Int) : Int × Int := if 1000 < s + 1 ∨ 256 < d ∨ rightP l 1099511627776 1000 = false then (1, s + 1) else (0, s + 1)
theorem sndF_bad {l : Lv} {d s : Int} (h : 1000 < s + 1 ∨ 256 < d ∨ rightP l 1099511627776 1000 = false) : sndF l d s = (1, s + 1) := if_pos h
theorem sndF_ok {l : Lv} {d s : Int} (h : ¬ (1000 < s + 1 ∨ 256 < d ∨ rightP l 1099511627776 1000 = false)) : sndF l d s = (0, s + 1) := if_neg h

def VisitPost (w : World) (g : Nat) (r : Int × Int) (e : Ending) (w' : World) : Prop := e = .returned (.int .i64 r.1) ∧ NumAt w' g r.2 ∧ Chg (fun k => k = g) w w'

set_option maxHeartbeats 2000000 in
theorem sound1_calls (A : Option Addr) (c : Nat) (l : Lv) (d s : Int) (g : Nat) (w : World) (hc : l.kids.length ≤ 9223372036854775807) (hg : NumAt w g s) (hs0 : 0 ≤ s) (hs1 : s ≤ 1000) (hd0 : 0 ≤ d) (hd1 : d ≤ 257) :
    Calls Try.prog 122 #[lvV A c l, .int .i64 d, .pointer (some ⟨g, 0, none⟩)] w (VisitPost w g (sndF l d s)) := by
  have HG := Aside0.mk hg
  have hcell := hg.cell
  have hfz := blk_frozen hg 0
  have hc2 := (hg.alloc (.cells #[.int .i64 l.kind, .int .i64 l.num, .slice A l.kids.length c] 24 (0, 0))).cell
  have HC := Aside0.mk hc
  have hglt := blk_lt hg
  have hgne : g ≠ w.heap.size := Nat.ne_of_lt hglt
  clear hg hc
  unfold lvV
  go_enter Try.func122, Try.ntmps122
  have hfin : NumAt ((w.setCell ⟨g, 0, none⟩ (.int .i64 (s + 1))).alloc (.cells #[.int .i64 l.kind, .int .i64 l.num, .slice A l.kids.length c] 24 (0, 0))) g (s + 1) := (HG.out.set _).alloc _
  have hch : Chg (fun k => k = g) w ((w.setCell ⟨g, 0, none⟩ (.int .i64 (s + 1))).alloc (.cells #[.int .i64 l.kind, .int .i64 l.num, .slice A l.kids.length c] 24 (0, 0))) := chg_trans (chg_set _ _ _ _) (chg_alloc _ _ _)
  have HF := Aside0.mk (And.intro hfin hch)
  clear hfin hch
  by_cases h1 : 1000 < s + 1
  · have HE := Aside0.mk (sndF_bad (l := l) (d := d) (.inl h1))
    go_wp2
    go_ret
    rw [HE.out]
    exact ⟨rfl, HF.out.1, HF.out.2⟩
  · by_cases h2 : 256 < d
    · have HE := Aside0.mk (sndF_bad (l := l) (s := s) (.inr (.inl h2)))
      go_wp2
      go_ret
      rw [HE.out]
      exact ⟨rfl, HF.out.1, HF.out.2⟩
    · cases hR : rightP l 1099511627776 1000 with
      | false =>
        have HE := Aside0.mk (sndF_bad (d := d) (s := s) (.inr (.inr hR)))
        have HR := Aside0.mk hR
        clear hR
        go_wp2_with (go_at_call 102; go_must (refine (right_calls A c l 1099511627776 1000 _ HC.out).mono ?_; rintro e w1 ⟨rfl, hb⟩; rw [HR.out]; have HB := Aside0.mk hb; clear hb))
        go_ret
        rw [HE.out]
        exact ⟨rfl, HF.out.1.below HB.out, chg_trans HF.out.2 (Chg.of_below HB.out)⟩
      | true =>
        have HE := Aside0.mk (sndF_ok (l := l) (d := d) (s := s) (by rw [hR]; simp; omega))
        have HR := Aside0.mk hR
        clear hR
        go_wp2_with (go_at_call 102; go_must (refine (right_calls A c l 1099511627776 1000 _ HC.out).mono ?_; rintro e w1 ⟨rfl, hb⟩; rw [HR.out]; have HB := Aside0.mk hb; clear hb))
        go_ret
        rw [HE.out]
        exact ⟨rfl, HF.out.1.below HB.out, chg_trans HF.out.2 (Chg.of_below HB.out)⟩

/-- What walk tells of a visit at the counter. -/
def Small (f : Lv → Int → Int → Int × Int) (m : Int) : Prop := ∀ l d s, 0 ≤ s → (f l d s).1 = 0 → 0 ≤ (f l d s).2 ∧ (f l d s).2 ≤ m
mutual
theorem walkP_small {f : Lv → Int → Int → Int × Int} {m : Int} (hf : Small f m) : (l : Lv) → (d s : Int) → 0 ≤ s → (walkP f l d s).1 = 0 → 0 ≤ (walkP f l d s).2 ∧ (walkP f l d s).2 ≤ m
  | .mk k n ks, d, s, h0, h => by
    by_cases h1 : (f (.mk k n ks) d s).1 = 0
    · rw [walkP_go h1] at h ⊢
      have h2 := hf _ _ _ h0 h1
      exact walkKs_small hf ks (d + 1) _ h2.1 h2.2 h
    · rw [walkP_stop h1] at h; exact absurd h h1
theorem walkKs_small {f : Lv → Int → Int → Int × Int} {m : Int} (hf : Small f m) : (ks : List Lv) → (d s : Int) → 0 ≤ s → s ≤ m → (walkKs f ks d s).1 = 0 → 0 ≤ (walkKs f ks d s).2 ∧ (walkKs f ks d s).2 ≤ m
  | [], d, s, h0, h1, _ => by rw [walkKs]; exact ⟨h0, h1⟩
  | x :: r, d, s, h0, h1, h => by
    by_cases h2 : (walkP f x d s).1 = 0
    · rw [walkKs_go h2] at h ⊢
      have h3 := walkP_small hf x d s h0 h2
      exact walkKs_small hf r d _ h3.1 h3.2 h
    · rw [walkKs_stop h2] at h; exact absurd h h2
end
theorem sndF_small' {l : Lv} {d s : Int} (hs : 0 ≤ s) (h : (sndF l d s).1 = 0) : s + 1 ≤ 1000 ∧ d ≤ 256 ∧ rightP l 1099511627776 1000 = true ∧ sndF l d s = (0, s + 1) := by
  by_cases h1 : 1000 < s + 1 ∨ 256 < d ∨ rightP l 1099511627776 1000 = false
  · rw [sndF_bad h1] at h; simp at h
  · exact ⟨by omega, by omega, by cases hR : rightP l 1099511627776 1000 <;> simp_all, sndF_ok h1⟩
theorem sndF_small : Small sndF 1000 := fun l d s h0 h => by
  have := sndF_small' h0 h
  rw [this.2.2.2]
  exact ⟨by show 0 ≤ s + 1; omega, this.1⟩
end Go.Proofs.Ytcgkeolgflphiaa

/-! LvW -/
namespace Go.Proofs.Ytcgkeolgflphiaa
open Go.RowKit Go.Proofs.YtcgkeolgflphiaaW.PrintWords Go.RegionInvYtcgkeolgflphiaa

theorem kid_small {k n : Int} {ks : List Lv} {i : Nat} {x : Lv} (h : ks[i]? = some x) : SizeOf.sizeOf x < SizeOf.sizeOf (Lv.mk k n ks) := by
  have := List.sizeOf_lt_of_mem (List.mem_of_getElem? h)
  simp only [Lv.mk.sizeOf_spec]
  omega
theorem drop_kid {ks : List Lv} {i : Nat} {x : Lv} (h : ks[i]? = some x) : ks.drop i = x :: ks.drop (i + 1) := by
  obtain ⟨hi, e⟩ := List.getElem?_eq_some_iff.1 h
  rw [List.drop_eq_getElem_cons hi, e]
theorem chg_below {w w' : World} {g B : Nat} (h : Chg (fun k => k = g) w w') (hB : B ≤ g) (hz : B ≤ w.heap.size) : Below B w w' := h.below (fun _ e => e ▸ hB) hz

theorem chg_cell {w w' : World} {g : Nat} (h : Chg (fun k => k = g) w w') {p : Addr} {v : Value} (hc : w.cell? p = some v) (hne : p.block ≠ g) : w'.cell? p = some v := by
  have hb := h.block p.block (World.block_lt_of_cell? w p hc) hne
  simpa [World.cell?, hb] using hc
theorem box_cell (w : World) (cs : Array Value) (t : TypeId) (i : Nat) (v : Value) (h : cs[i]? = some v) : (w.alloc (.cells cs t (0, 0))).cell? ⟨w.heap.size, i, none⟩ = some v := by
  rw [cell_of_row _ _ _ cs t (0, 0) (heap_alloc_new w _)]; exact h
theorem add_flat (b o j : Nat) : (⟨b, o, none⟩ : Addr).add j = ⟨b, o + j, none⟩ := by unfold Addr.add; split <;> simp_all
theorem CellsAt.facts {w : World} {S : Nat → Prop} {A : Option Addr} {i : Nat} {a b : Int} {A' : Option Addr} {n' c' : Nat} (h : CellsAt w S A i a b A' n' c') : ∃ ad, A = some ad ∧ w.cell? (ad.add (i * 3)) = some (.int .i64 a) ∧
    w.cell? ⟨(ad.add (i * 3)).block, (ad.add (i * 3)).off + 1, none⟩ = some (.int .i64 b) ∧ w.cell? ⟨(ad.add (i * 3)).block, (ad.add (i * 3)).off + 2, none⟩ = some (.slice A' n' c') := by
  obtain ⟨ad, e, _, hs, h1, h2, h3⟩ := h
  obtain ⟨b, o, sp⟩ := ad
  obtain rfl : sp = none := hs
  refine ⟨_, e, h1, ?_, ?_⟩
  · rw [← h2, add_flat, add_flat]; rfl
  · rw [← h3, add_flat, add_flat]; rfl
abbrev soundF (g : Nat) : Value := .func (.func 122) #[] #[.pointer (some ⟨g, 0, none⟩)]

theorem sound1_at (A : Option Addr) (c : Nat) (k n : Int) (ks : List Lv) (m : Nat) (d s : Int) (g : Nat) (w : World) (hm : m = ks.length) (hc : m ≤ 9223372036854775807) (hg : NumAt w g s) (hs0 : 0 ≤ s) (hs1 : s ≤ 1000) (hd0 : 0 ≤ d) (hd1 : d ≤ 257) :
    Calls Try.prog 122 #[.agg #[.int .i64 k, .int .i64 n, .slice A m c], .int .i64 d, .pointer (some ⟨g, 0, none⟩)] w (VisitPost w g (sndF (.mk k n ks) d s)) := by
  subst hm
  exact sound1_calls A c (.mk k n ks) d s g w hc hg hs0 hs1 hd0 hd1

set_option maxHeartbeats 4000000 in
theorem walk_sound (N : Nat) : ∀ (l : Lv), SizeOf.sizeOf l < N → ∀ (A : Option Addr) (c : Nat) (d s : Int) (g B : Nat) (w : World), LvIn w B A c l → NumAt w g s → B ≤ g → 0 ≤ s → s ≤ 1000 → 0 ≤ d → d ≤ 257 →
    Calls Try.prog 100 #[lvV A c l, .int .i64 d, soundF g] w (VisitPost w g (walkP sndF l d s)) := by
  induction N with
  | zero => intro l h; omega
  | succ N ih =>
    rintro ⟨lk, ln, ks⟩ hN A c d s g B w hin hg hBg hs0 hs1 hd0 hd1
    have IH := Aside0.mk ih
    have HIN := Aside0.mk hin
    have HG := Aside0.mk hg
    have hlen := hin.len
    simp only [Lv.kids] at hlen
    have hl9 : ks.length ≤ 9223372036854775807 := by omega
    have hglt := blk_lt hg
    clear ih hin hg hlen
    unfold soundF lvV
    simp only [Lv.kind, Lv.num, Lv.kids]
    obtain ⟨m, hm⟩ : ∃ m, m = ks.length := ⟨_, rfl⟩
    rw [← hm] at hl9 ⊢
    have HM := Aside0.mk hm
    clear hm
    go_enter Try.func100, Try.ntmps100
    by_cases h1 : (sndF (.mk lk ln ks) d s).1 = 0
    · have HE := Aside0.mk (walkP_go h1)
      have hsm := sndF_small' hs0 h1
      have HV := Aside0.mk hsm.2.2.2
      rw [HV.out] at HE
      simp only [Lv.kids] at HE
      have hs3 := hsm.1
      have hd3 := hsm.2.1
      clear h1 hsm
      go_wp2_with (go_at_call 122; go_must (refine (sound1_at A c lk ln ks m d s g _ HM.out hl9 (HG.out.alloc _) hs0 hs1 hd0 hd1).mono ?_; rintro e w1 ⟨rfl, hg1, hc1⟩; rw [HV.out] at hg1 ⊢; have HG1 := Aside0.mk hg1; have hbox := chg_cell hc1 (box_cell w #[.int .i64 lk, .int .i64 ln, .slice A m c] 24 2 _ rfl) (Nat.ne_of_gt hglt); have HC1 := Aside0.mk (chg_trans (chg_alloc _ _ _) hc1); clear hg1 hc1))
      go_loopw [21] (fun i wr => ∃ (k : Nat) (s' : Int), i = .int .i64 k ∧ k ≤ m ∧ 0 ≤ s' ∧ s' ≤ 1000 ∧ Aside0 (walkKs sndF (ks.drop k) (d + 1) s' = walkP sndF (.mk lk ln ks) d s) ∧ Aside0 (NumAt wr g s') ∧ Aside0 (Chg (fun k => k = g) w wr)) (fun i _ => m - (intOf i).toNat)
      case atStart => exact ⟨0, s + 1, rfl, Nat.zero_le _, by omega, by omega, ⟨HE.out.symm⟩, HG1, HC1⟩
      case round =>
        clear HE HV HG1 HC1 hbox
        obtain ⟨k, s', rfl, hk, hs4, hs5, HE, HG1, HC1⟩ := hrel
        have HIN2 := Aside0.mk (LvIn.stay HIN.out (chg_below HC1.out hBg (Nat.le_of_lt (Nat.lt_of_le_of_lt hBg hglt))))
        by_cases hlt : k < m
        · have hlt2 : k < ks.length := by rw [← HM.out]; exact hlt
          obtain ⟨x, hx⟩ : ∃ x, ks[k]? = some x := ⟨_, List.getElem?_eq_getElem hlt2⟩
          obtain ⟨A', c', hcs, hin⟩ := HIN2.out.kid k x hx
          obtain ⟨ad, rfl, hc1, hc2, hc3⟩ := hcs.facts
          clear hcs
          have HX := Aside0.mk hx
          have HXIN := Aside0.mk hin
          clear hx hin hlt2
          have hglt2 := blk_lt HG1.out
          by_cases h2 : (walkP sndF x (d + 1) s').1 = 0
          · have hsm := walkP_small sndF_small x (d + 1) s' hs4 h2
            have HK := Aside0.mk ((walkKs_go (r := ks.drop (k + 1)) h2).symm.trans ((congrArg (fun l => walkKs sndF l (d + 1) s') (drop_kid HX.out)).symm.trans HE.out))
            obtain ⟨e2, s2, hes⟩ : ∃ a b, walkP sndF x (d + 1) s' = (a, b) := ⟨_, _, rfl⟩
            have HV := Aside0.mk hes
            rw [hes] at hsm h2 HK
            simp only at hsm h2 HK
            subst h2
            have hs6 := hsm.1
            have hs7 := hsm.2
            clear hes hsm
            go_wp2_with (go_at_call 100; go_must (refine (IH.out x (Nat.lt_of_lt_of_le (kid_small HX.out) (Nat.le_of_lt_succ hN)) A' c' (d + 1) s' g B _ (LvIn.stay HXIN.out ((Below.refl _ _).alloc (Nat.le_of_lt (Nat.lt_of_le_of_lt hBg hglt2)) _)) (HG1.out.alloc _) hBg hs4 hs5 (by omega) (by omega)).mono ?_; rintro e w2 ⟨rfl, hg1, hc1⟩; rw [HV.out] at hg1 ⊢; have HG2 := Aside0.mk hg1; have HC2 := Aside0.mk (chg_trans HC1.out (chg_trans (chg_alloc _ _ _) hc1)); clear hg1 hc1))
            go_roundw
            case rel => exact ⟨k + 1, s2, by go_num, by omega, hs6, hs7, HK, HG2, HC2⟩
            case measure => (simp [intOf]; try omega)
          · have HK := Aside0.mk ((walkKs_stop (r := ks.drop (k + 1)) h2).symm.trans ((congrArg (fun l => walkKs sndF l (d + 1) s') (drop_kid HX.out)).symm.trans HE.out))
            obtain ⟨e2, s2, hes⟩ : ∃ a b, walkP sndF x (d + 1) s' = (a, b) := ⟨_, _, rfl⟩
            have HV := Aside0.mk hes
            rw [hes] at h2
            have h2' : (e2 != 0) = true := by simpa using h2
            clear hes h2
            go_wp2_with (go_at_call 100; go_must (refine (IH.out x (Nat.lt_of_lt_of_le (kid_small HX.out) (Nat.le_of_lt_succ hN)) A' c' (d + 1) s' g B _ (LvIn.stay HXIN.out ((Below.refl _ _).alloc (Nat.le_of_lt (Nat.lt_of_le_of_lt hBg hglt2)) _)) (HG1.out.alloc _) hBg hs4 hs5 (by omega) (by omega)).mono ?_; rintro e w2 ⟨rfl, hg1, hc1⟩; rw [HV.out] at hg1 ⊢; have HG2 := Aside0.mk hg1; have HC2 := Aside0.mk (chg_trans HC1.out (chg_trans (chg_alloc _ _ _) hc1)); clear hg1 hc1))
            go_ret
            rw [← HK.out, HV.out]
            exact ⟨rfl, HG2.out, HC2.out⟩
        · obtain rfl : k = m := by omega
          have hlt' : decide ((k : Int) < k) = false := by simp
          have HW := Aside0.mk (show walkP sndF (.mk lk ln ks) d s = (0, s') by rw [← HE.out, List.drop_of_length_le (by rw [← HM.out]; exact Nat.le_refl _), walkKs])
          go_wp2
          go_ret
          rw [HW.out]
          exact ⟨rfl, HG1.out, HC1.out⟩
    · have HE := Aside0.mk (walkP_stop h1)
      have h1' : ((sndF (.mk lk ln ks) d s).1 != 0) = true := by simp [h1]
      obtain ⟨e1, s1, hes⟩ : ∃ a b, sndF (.mk lk ln ks) d s = (a, b) := ⟨_, _, rfl⟩
      have HV := Aside0.mk hes
      rw [hes] at h1'
      simp only at h1'
      clear h1 hes
      go_wp2_with (go_at_call 122; go_must (refine (sound1_at A c lk ln ks m d s g _ HM.out hl9 (HG.out.alloc _) hs0 hs1 hd0 hd1).mono ?_; rintro e w1 ⟨rfl, hg1, hc1⟩; rw [HV.out] at hg1 ⊢; have HG1 := Aside0.mk hg1; have HC1 := Aside0.mk (chg_trans (chg_alloc _ _ _) hc1); clear hg1 hc1))
      go_ret
      rw [HE.out, HV.out]
      exact ⟨rfl, HG1.out, HC1.out⟩
theorem two_below {w w' : World} {o o' : Obj} (h : Chg (fun k => k = w.heap.size + 1) ((w.alloc o).alloc o') w') : Below w.heap.size w w' :=
  Chg.trans_below (below_alloc (below_alloc (Below.refl _ _) _) _) h (fun _ e => by omega) (by simp; omega)
/-- Is a level sound? -/
def soundB (l : Lv) : Bool := (walkP sndF l 1 0).1 == 0

set_option maxHeartbeats 2000000 in
theorem sound_calls (A : Option Addr) (c : Nat) (l : Lv) (w : World) (hin : LvIn w w.heap.size A c l) :
    Calls Try.prog 114 #[lvV A c l] w fun e w' => e = .returned (.bool (soundB l)) ∧ Below w.heap.size w w' := by
  have HIN := Aside0.mk hin
  clear hin
  unfold lvV
  go_enter Try.func114, Try.ntmps114
  have hnew : NumAt ((w.alloc (.cells #[.int .i64 l.kind, .int .i64 l.num, .slice A l.kids.length c] 24 (0, 0))).alloc (.cells #[.int .i64 0] 3 (0, 0))) (w.heap.size + 1) 0 := by
    have := blk_new (w.alloc (.cells #[.int .i64 l.kind, .int .i64 l.num, .slice A l.kids.length c] 24 (0, 0))) (.cells #[.int .i64 0] 3 (0, 0))
    simpa [NumAt] using this
  have HNEW := Aside0.mk hnew
  clear hnew
  go_wp2_with (go_at_call 100; go_must (refine (walk_sound _ l (Nat.lt_succ_self _) A c 1 0 (w.heap.size + 1) w.heap.size _ (LvIn.stay HIN.out (below_alloc (below_alloc (Below.refl _ _) _) _)) HNEW.out (Nat.le_succ _) (by decide) (by decide) (by decide) (by decide)).mono ?_; rintro e w1 ⟨rfl, -, hc⟩; have HB := Aside0.mk (two_below hc); clear hc))
  go_ret
  exact ⟨rfl, HB.out⟩
end Go.Proofs.Ytcgkeolgflphiaa

/-! LvK -/
namespace Go.Proofs.Ytcgkeolgflphiaa
open Go.RowKit Go.Proofs.YtcgkeolgflphiaaW.PrintWords Go.RegionInvYtcgkeolgflphiaa

/-- Kids that lie in a row of the call's own. -/
def KidsAt (w : World) (lo : Nat) (V : Value) (xs : List Lv) : Prop :=
  ∃ (cells : List Value) (fA : Nat → Option Addr) (fc : Nat → Nat), w.ownsRow lo 24 3 V xs.length cells ∧
    ∀ (i : Nat) (x : Lv), xs[i]? = some x → cells[i * 3]? = some (.int .i64 x.kind) ∧ cells[i * 3 + 1]? = some (.int .i64 x.num) ∧ cells[i * 3 + 2]? = some (.slice (fA i) x.kids.length (fc i)) ∧ LvS w (fun b => lo ≤ b ∧ V.ownBlock ≠ some b) (fA i) (fc i) x
theorem KidsAt.nil (w : World) (lo : Nat) : KidsAt w lo (.slice none 0 0) [] := ⟨[], fun _ => none, fun _ => 0, own_nil _ _ _ _, fun i x h => by simp at h⟩
theorem KidsAt.later {w w' : World} {lo : Nat} {V : Value} {xs : List Lv} (h : KidsAt w lo V xs) (hb : Below w.heap.size w w') : KidsAt w' lo V xs := by
  obtain ⟨cells, fA, fc, ho, hk⟩ := h
  exact ⟨cells, fA, fc, pw_own_below ho hb, fun i x hx => ⟨(hk i x hx).1, (hk i x hx).2.1, (hk i x hx).2.2.1, (hk i x hx).2.2.2.later hb⟩⟩
theorem own_len {w : World} {base n : Nat} {e : TypeId} {size : Nat} {v : Value} {xs : List Value} (h : w.ownsRow base e size v n xs) : xs.length = n * size := h.1
/-- A block that is none of them is written. -/
theorem KidsAt.other {w w' : World} {lo g : Nat} {V : Value} {xs : List Lv} (h : KidsAt w lo V xs) (hc : Chg (fun k => k = g) w w') (hg : g < lo) : KidsAt w' lo V xs := by
  obtain ⟨cells, fA, fc, ho, hk⟩ := h
  refine ⟨cells, fA, fc, ownsRow_same ho fun k hk => hc.block k (own_lt ho k hk) (by have := own_base ho k hk; omega), fun i x hx => ?_⟩
  obtain ⟨h1, h2, h3, h4⟩ := hk i x hx
  exact ⟨h1, h2, h3, h4.same fun k hs hz => hc.block k hz (by omega)⟩
theorem KidsAt.push {w w1 : World} {lo : Nat} {V v1 : Value} {xs : List Lv} {x : Lv} {A : Option Addr} {c : Nat} {cells : List Value} {fA : Nat → Option Addr} {fc : Nat → Nat} (ho : w.ownsRow lo 24 3 V xs.length cells)
    (hk : ∀ (i : Nat) (x : Lv), xs[i]? = some x → cells[i * 3]? = some (.int .i64 x.kind) ∧ cells[i * 3 + 1]? = some (.int .i64 x.num) ∧ cells[i * 3 + 2]? = some (.slice (fA i) x.kids.length (fc i)) ∧ LvS w (fun b => lo ≤ b ∧ V.ownBlock ≠ some b) (fA i) (fc i) x)
    (hx : LvS w (fun b => lo ≤ b ∧ V.ownBlock ≠ some b) A c x) (ho1 : w1.ownsRow lo 24 3 v1 (xs.length + 1) (cells ++ [.int .i64 x.kind, .int .i64 x.num, .slice A x.kids.length c]))
    (hg : w.grownBy w1 V.ownBlock) (hat : v1.ownBlock = V.ownBlock ∨ ∃ b, v1.ownBlock = some b ∧ w.heap.size ≤ b) : KidsAt w1 lo v1 (xs ++ [x]) := by
  have keep : ∀ {A : Option Addr} {c : Nat} {y : Lv}, LvS w (fun b => lo ≤ b ∧ V.ownBlock ≠ some b) A c y → LvS w1 (fun b => lo ≤ b ∧ v1.ownBlock ≠ some b) A c y := by
    intro A c y h
    have h1 : LvS w (fun b => (lo ≤ b ∧ V.ownBlock ≠ some b) ∧ v1.ownBlock ≠ some b) A c y := h.mono fun k hk hz => ⟨hk, by
      rcases hat with e | ⟨b, e, hb⟩
      · rw [e]; exact hk.2
      · rw [e]; intro h; injection h with h; omega⟩
    exact (h1.same fun k hs hz => hg.block k hz fun e => hs.1.2 e.symm).mono fun k hs _ => ⟨hs.1.1, hs.2⟩
  have hl := own_len ho
  refine ⟨_, fun i => if i = xs.length then A else fA i, fun i => if i = xs.length then c else fc i, by simpa using ho1, fun i y hy => ?_⟩
  rcases Nat.lt_or_ge i xs.length with hi | hi
  · rw [List.getElem?_append_left hi] at hy
    obtain ⟨h1, h2, h3, h4⟩ := hk i y hy
    rw [List.getElem?_append_left (by omega), List.getElem?_append_left (by omega), List.getElem?_append_left (by omega)]
    simp only [if_neg (show ¬ i = xs.length by omega)]
    exact ⟨h1, h2, h3, keep h4⟩
  · rw [List.getElem?_append_right hi] at hy
    have hi2 : i = xs.length := by
      cases e : i - xs.length with
      | zero => omega
      | succ j => rw [e] at hy; simp at hy
    subst hi2
    obtain rfl : x = y := by simpa using hy
    rw [List.getElem?_append_right (by omega), List.getElem?_append_right (by omega), List.getElem?_append_right (by omega)]
    simp only [↓reduceIte]
    rw [show xs.length * 3 - cells.length = 0 by omega, show xs.length * 3 + 1 - cells.length = 1 by omega, show xs.length * 3 + 2 - cells.length = 2 by omega]
    exact ⟨rfl, rfl, rfl, keep hx⟩
theorem KidsAt.level {w : World} {lo : Nat} {V : Value} {xs : List Lv} (h : KidsAt w lo V xs) : ∃ A c, V = .slice A xs.length c ∧ ∀ k n, LvS w (fun b => lo ≤ b) A c (.mk k n xs) := by
  obtain ⟨cells, fA, fc, ho, hk⟩ := h
  obtain ⟨A, c, rfl⟩ := own_slice ho
  refine ⟨A, c, rfl, fun k n => .mk fA fc (own_cap ho) ?_ (fun i x hx => ?_) (fun i x hx => (hk i x hx).2.2.2.mono fun b hb _ => hb.1)⟩
  · rcases ho.2 with ⟨h1, _⟩ | ⟨g, cap, cur, h1, _, _, h2, h3, _⟩
    · injection h1 with _ _ h1; omega
    · injection h1 with _ _ h1
      subst h1
      simp only [maxLen] at h3
      omega
  · have hi : i < xs.length := by
      rcases Nat.lt_or_ge i xs.length with h | h
      · exact h
      · rw [List.getElem?_eq_none h] at hx; cases hx
    obtain ⟨g, cap, hv, hb, _⟩ := ho.form (by omega)
    obtain ⟨h1, h2, h3, _⟩ := hk i x hx
    have hv' := hv
    injection hv with hA
    exact ⟨⟨g, 0, none⟩, hA, hb, rfl, ho.cells (g := g) (by rw [hv']; rfl) _ _ h1, ho.cells (g := g) (by rw [hv']; rfl) _ _ h2, ho.cells (g := g) (by rw [hv']; rfl) _ _ h3⟩

/-! ### What is copied -/
mutual
def cpP : Lv → Lv | .mk k n ks => .mk k (if k = 4 then 0 else n) (cpKs ks)
def cpKs : List Lv → List Lv | [] => [] | x :: r => cpP x :: cpKs r
end
theorem cpKs_map (ks : List Lv) : cpKs ks = ks.map cpP := by
  induction ks with
  | nil => rfl
  | cons x r ih => rw [cpKs, ih]; rfl
/-- Every node is right. -/
inductive Good : Lv → Prop
  | mk {k n : Int} {ks : List Lv} (h : rightP (.mk k n ks) 1099511627776 1000 = true) (hk : ∀ x ∈ ks, Good x) : Good (.mk k n ks)
mutual
theorem good_of_walk : (l : Lv) → (d s : Int) → 0 ≤ s → (walkP sndF l d s).1 = 0 → Good l
  | .mk k n ks, d, s, h0, h => by
    by_cases h1 : (sndF (.mk k n ks) d s).1 = 0
    · have h2 := sndF_small' h0 h1
      rw [walkP_go h1, h2.2.2.2] at h
      exact .mk h2.2.2.1 (goods_of_walk ks (d + 1) (s + 1) (by omega) h2.1 h)
    · rw [walkP_stop h1] at h; exact absurd h h1
theorem goods_of_walk : (ks : List Lv) → (d s : Int) → 0 ≤ s → s ≤ 1000 → (walkKs sndF ks d s).1 = 0 → ∀ x ∈ ks, Good x
  | [], _, _, _, _, _ => fun x hx => by cases hx
  | y :: r, d, s, h0, h1, h => by
    by_cases h2 : (walkP sndF y d s).1 = 0
    · rw [walkKs_go h2] at h
      have h3 := walkP_small sndF_small y d s h0 h2
      have h4 := good_of_walk y d s h0 h2
      have h5 := goods_of_walk r d _ h3.1 h3.2 h
      intro x hx
      rcases List.mem_cons.1 hx with rfl | hx
      · exact h4
      · exact h5 x hx
    · rw [walkKs_stop h2] at h; exact absurd h h2
end
theorem good_of_sound {l : Lv} (h : soundB l = true) : Good l := good_of_walk l 1 0 (by decide) (by simpa [soundB] using h)
theorem arity_le (k : Int) : arityP k ≤ 2 := by
  unfold arityP
  split
  · omega
  · split
    · omega
    · split <;> omega
theorem right_two {l : Lv} (h : rightP l 1099511627776 1000 = true) : l.kids.length ≤ 2 := by
  unfold rightP at h
  split at h
  · cases h
  · rename_i h1
    have : (l.kids.length : Int) = arityP l.kind := by simpa using h1
    have := arity_le l.kind
    omega
theorem Good.two {k n : Int} {ks : List Lv} (h : Good (.mk k n ks)) : ks.length ≤ 2 := by
  cases h with
  | mk h _ => exact right_two h
theorem Good.kid {k n : Int} {ks : List Lv} (h : Good (.mk k n ks)) {i : Nat} {x : Lv} (hx : ks[i]? = some x) : Good x := by
  cases h with
  | mk _ hk => exact hk x (List.mem_of_getElem? hx)
end Go.Proofs.Ytcgkeolgflphiaa

/-! LvC -/
namespace Go.Proofs.Ytcgkeolgflphiaa
open Go.RowKit Go.Proofs.YtcgkeolgflphiaaW.PrintWords Go.RegionInvYtcgkeolgflphiaa

theorem infoLv : (Try.prog.info? 24).map (fun i => (i.zero, i.size, i.bytes)) = some (some (.agg #[.int .i64 0, .int .i64 0, .slice none 0 0]), 3, 40) := by kernel_rfl
/-- A level that a call gives: in memory of its own. -/
def LvPost (w : World) (l : Lv) (e : Ending) (w' : World) : Prop := ∃ A c, e = .returned (lvV A c l) ∧ LvS w' (fun b => w.heap.size ≤ b) A c l ∧ Below w.heap.size w w'

theorem cpKs_len (ks : List Lv) : (cpKs ks).length = ks.length := by rw [cpKs_map]; simp
theorem cpKs_snoc {ks : List Lv} {k : Nat} {x : Lv} (h : ks[k]? = some x) : cpKs (ks.take (k + 1)) = cpKs (ks.take k) ++ [cpP x] := by
  rw [cpKs_map, cpKs_map, List.take_add_one, h]; simp
/-- Behind the copy of a kid. -/
structure CpIn (w w5 : World) (lk n' : Int) (V : Value) (xs : List Lv) (A5 : Option Addr) (c5 : Nat) (x : Lv) : Prop where
  o : w5.heap[w.heap.size + 1 + 1]? = some (.cells #[.int .i64 lk, .int .i64 n', V] 24 (0, 0))
  res : w5.heap[w.heap.size + 1]? = some (.cells #[.int .i64 0, .int .i64 0, .slice none 0 0] 24 (0, 0))
  kids : KidsAt w5 (w.heap.size + 3) V xs
  bel : Below w.heap.size w w5
  kid : LvS w5 (fun b => w.heap.size + 3 ≤ b ∧ V.ownBlock ≠ some b) A5 c5 x
theorem CpIn.cell {w w5 : World} {lk n' : Int} {V : Value} {xs : List Lv} {A5 : Option Addr} {c5 : Nat} {x : Lv} (h : CpIn w w5 lk n' V xs A5 c5 x) : w5.cell? ⟨w.heap.size + 1 + 1, 2, none⟩ = some V := by
  rw [cell_of_row _ _ _ _ _ _ h.o]; rfl
theorem CpIn.cell2 {w w5 : World} {lk n' : Int} {V : Value} {xs : List Lv} {A5 : Option Addr} {c5 : Nat} {x : Lv} (h : CpIn w w5 lk n' V xs A5 c5 x) (ob : Obj) : (w5.alloc ob).cell? ⟨w.heap.size + 1 + 1, 2, none⟩ = some V := by
  rw [cell_of_row _ _ _ _ _ _ (blk_alloc h.o ob)]; rfl
theorem copied_in {w wr W3 w5 : World} {lk n' : Int} {V : Value} {xs : List Lv} {A5 : Option Addr} {c5 : Nat} {x : Lv} (ho : wr.heap[w.heap.size + 1 + 1]? = some (.cells #[.int .i64 lk, .int .i64 n', V] 24 (0, 0)))
    (hr : wr.heap[w.heap.size + 1]? = some (.cells #[.int .i64 0, .int .i64 0, .slice none 0 0] 24 (0, 0))) (hk : KidsAt wr (w.heap.size + 3) V xs) (hb : Below w.heap.size w wr) (hb3 : Below wr.heap.size wr W3) (hb5 : Below W3.heap.size W3 w5) (hl : LvS w5 (fun b => W3.heap.size ≤ b) A5 c5 x) : CpIn w w5 lk n' V xs A5 c5 x := by
  have hbb : Below wr.heap.size wr w5 := below_then hb3 hb3.size hb5
  have hlt := blk_lt ho
  refine ⟨blk_below ho hbb, blk_below hr hbb, hk.later hbb, below_then hb hb.size hbb, hl.mono fun b hb' _ => ⟨by have := hb3.size; omega, fun e => ?_⟩⟩
  obtain ⟨cells, fA, fc, hown, _⟩ := hk
  have := own_lt hown b e
  have := hb3.size
  omega
theorem CpIn.drew {w w5 : World} {lk n' : Int} {V : Value} {xs : List Lv} {A5 : Option Addr} {c5 : Nat} {x : Lv} (h : CpIn w w5 lk n' V xs A5 c5 x) : CpIn w w5.drew lk n' V xs A5 c5 x :=
  ⟨h.o, h.res, h.kids.later (below_drew (Below.refl _ _)), below_drew h.bel, h.kid.later (below_drew (Below.refl _ _))⟩
theorem copied_base {w w5 : World} {lk n' : Int} {V : Value} {xs : List Lv} {A5 : Option Addr} {c5 : Nat} {x : Lv} (h : CpIn w w5 lk n' V xs A5 c5 x) : w.heap.size + 3 ≤ w5.heap.size := by have := blk_lt h.o; omega
/-- Behind the append. -/
structure CpOut (w w6 : World) (lk n' : Int) (V V6 : Value) (xs : List Lv) : Prop where
  o : w6.heap[w.heap.size + 1 + 1]? = some (.cells #[.int .i64 lk, .int .i64 n', V] 24 (0, 0))
  res : w6.heap[w.heap.size + 1]? = some (.cells #[.int .i64 0, .int .i64 0, .slice none 0 0] 24 (0, 0))
  kids : KidsAt w6 (w.heap.size + 3) V6 xs
  bel : Below w.heap.size w w6
theorem CpOut.cell {w w6 : World} {lk n' : Int} {V V6 : Value} {xs : List Lv} (h : CpOut w w6 lk n' V V6 xs) : w6.cell? ⟨w.heap.size + 1 + 1, 2, none⟩ = some V := by
  rw [cell_of_row _ _ _ _ _ _ h.o]; rfl
theorem copied_push {w w5 w6 : World} {lk n' : Int} {V v6 : Value} {xs : List Lv} {A5 : Option Addr} {c5 : Nat} {x : Lv} {cells : List Value} {fA : Nat → Option Addr} {fc : Nat → Nat} (h : CpIn w w5 lk n' V xs A5 c5 x)
    (ho : w5.ownsRow (w.heap.size + 3) 24 3 V xs.length cells)
    (hk : ∀ (i : Nat) (x : Lv), xs[i]? = some x → cells[i * 3]? = some (.int .i64 x.kind) ∧ cells[i * 3 + 1]? = some (.int .i64 x.num) ∧ cells[i * 3 + 2]? = some (.slice (fA i) x.kids.length (fc i)) ∧ LvS w5 (fun b => w.heap.size + 3 ≤ b ∧ V.ownBlock ≠ some b) (fA i) (fc i) x)
    (ho1 : w6.ownsRow (w.heap.size + 3) 24 3 v6 (xs.length + 1) (cells ++ [.int .i64 x.kind, .int .i64 x.num, .slice A5 x.kids.length c5])) (hg : w5.grownBy w6 V.ownBlock) (hat : v6.ownBlock = V.ownBlock ∨ ∃ b, v6.ownBlock = some b ∧ w5.heap.size ≤ b) : CpOut w w6 lk n' V v6 (xs ++ [x]) := by
  have far : ∀ k, k < w.heap.size + 3 → some k ≠ V.ownBlock := fun k hk e => by have := own_base ho k e.symm; omega
  refine ⟨?_, ?_, KidsAt.push ho hk h.kid ho1 hg hat, ⟨hg.os.trans h.bel.os, hg.tape.trans h.bel.tape, hg.output.trans h.bel.output, Nat.le_trans h.bel.size hg.size, fun i hi => ?_⟩⟩
  · rw [hg.block _ (blk_lt h.o) (far _ (by omega))]; exact h.o
  · rw [hg.block _ (blk_lt h.res) (far _ (by omega))]; exact h.res
  · rw [hg.block i (Nat.lt_of_lt_of_le hi h.bel.size) (far i (by omega))]; exact h.bel.block i hi
theorem results_c {P : Program} {fn : Func} {p : Tmp} {ty : TypeId} (h : fn.results = #[.cell p ty]) (tmps : Array Value) (w : World) (g : Nat) (t : TypeId) (cs : Array Value) (fr : Nat × Nat) (d : TypeDesc)
    (hp : tmps.getD p undef = .pointer (some ⟨g, 0, none⟩)) (hg : w.heap[g]? = some (.cells cs t fr))
    (hu : P.underlying ty = some d) (hd : (match d with | .struct _ | .array _ _ => true | _ => false) = true) (hi : (P.info? ty).map (·.size) = some cs.size) :
    (results fn tmps).run P w = .ok (.agg cs) w := by
  have hp' : tmps[p]?.getD undef = .pointer (some ⟨g, 0, none⟩) := by simpa using hp
  simp [results, h, hp', asAddr, run_loadVar_row w g t ty cs fr d hg hu hd hi]
theorem set3 {w : World} {g : Nat} {x y z a b c : Value} {t : TypeId} (h : w.heap[g]? = some (.cells #[x, y, z] t (0, 0))) :
    (((w.setCell ⟨g, 0, none⟩ a).setCell ⟨g, 1, none⟩ b).setCell ⟨g, 2, none⟩ c).heap[g]? = some (.cells #[a, b, c] t (0, 0)) := blk_put (blk_put (blk_put h 0 a rfl) 1 b rfl) 2 c rfl
theorem chg_set3 (w : World) (g : Nat) (a b c : Value) : Chg (fun k => k = g) w (((w.setCell ⟨g, 0, none⟩ a).setCell ⟨g, 1, none⟩ b).setCell ⟨g, 2, none⟩ c) := chg_trans (chg_trans (chg_set _ _ _ _) (chg_set _ _ _ _)) (chg_set _ _ _ _)
theorem copied_fin {w w6 : World} {lk n' : Int} {V V6 : Value} {xs ys : List Lv} (h : CpOut w w6 lk n' V V6 xs) (e : ys = xs) :
    ∃ v5, Aside0 ((w6.setCell ⟨w.heap.size + 1 + 1, 2, none⟩ V6).heap[w.heap.size + 1 + 1]? = some (.cells #[.int .i64 lk, .int .i64 n', v5] 24 (0, 0))) ∧ Aside0 ((w6.setCell ⟨w.heap.size + 1 + 1, 2, none⟩ V6).heap[w.heap.size + 1]? = some (.cells #[.int .i64 0, .int .i64 0, .slice none 0 0] 24 (0, 0))) ∧
      Aside0 (KidsAt (w6.setCell ⟨w.heap.size + 1 + 1, 2, none⟩ V6) (w.heap.size + 3) v5 ys) ∧ Aside0 (Below w.heap.size w (w6.setCell ⟨w.heap.size + 1 + 1, 2, none⟩ V6)) := by
  subst e
  have hch := chg_set w6 (w.heap.size + 1 + 1) 2 V6
  exact ⟨V6, ⟨blk_put h.o 2 V6 rfl⟩, ⟨(hch.block _ (blk_lt h.res) (by omega)).trans h.res⟩, ⟨h.kids.other hch (by omega)⟩, ⟨Chg.trans_below h.bel hch (fun _ e => by omega) h.bel.size⟩⟩
end Go.Proofs.Ytcgkeolgflphiaa

/-! Tm -/
namespace Go.Proofs.Ytcgkeolgflphiaa
open Go.RowKit Go.Proofs.YtcgkeolgflphiaaW.PrintWords Go.RegionInvYtcgkeolgflphiaa

/-- Where the parts of a term lie: its level's kids, its levels, its kids. -/
structure Pl where
  A : Option Addr
  c : Nat
  B : Option Addr
  d : Nat
  K : Option Addr
  e : Nat
instance : Inhabited Pl := ⟨⟨none, 0, none, 0, none, 0⟩⟩
inductive Tm where
  | mk (kind num : Int) (name : ByteArray) (lv : Lv) (ls : List Lv) (kids : List Tm)
def Tm.kind : Tm → Int | .mk k _ _ _ _ _ => k
def Tm.num : Tm → Int | .mk _ n _ _ _ _ => n
def Tm.name : Tm → ByteArray | .mk _ _ s _ _ _ => s
def Tm.lv : Tm → Lv | .mk _ _ _ l _ _ => l
def Tm.ls : Tm → List Lv | .mk _ _ _ _ l _ => l
def Tm.kids : Tm → List Tm | .mk _ _ _ _ _ k => k
instance : Inhabited Tm := ⟨.mk 0 0 ByteArray.empty (.mk 0 0 []) [] []⟩
/-- The eight cells of a term (its level's three among them). -/
def tmC (p : Pl) (t : Tm) : List Value := [.int .i64 t.kind, .int .i64 t.num, .string t.name, .int .i64 t.lv.kind, .int .i64 t.lv.num, .slice p.A t.lv.kids.length p.c, .slice p.B t.ls.length p.d, .slice p.K t.kids.length p.e]
def tmV (p : Pl) (t : Tm) : Value := .agg #[.int .i64 t.kind, .int .i64 t.num, .string t.name, .int .i64 t.lv.kind, .int .i64 t.lv.num, .slice p.A t.lv.kids.length p.c, .slice p.B t.ls.length p.d, .slice p.K t.kids.length p.e]
theorem tmC_len (p : Pl) (t : Tm) : (tmC p t).length = 8 := rfl
/-- Kid i of a row at K. -/
def KidAt (w : World) (S : Nat → Prop) (K : Option Addr) (i : Nat) (q : Pl) (x : Tm) : Prop :=
  ∃ b o, K = some ⟨b, o, none⟩ ∧ S b ∧ ∀ (j : Nat) (v : Value), (tmC q x)[j]? = some v → w.cell? ⟨b, o + i * 8 + j, none⟩ = some v
/-- Sizes that every argument keeps. -/
def Fit (n : Int) (nm : ByteArray) (ls : List Lv) : Prop := (-9223372036854775808 ≤ n ∧ n ≤ 9223372036854775807) ∧ nm.size ≤ 140737488355328 ∧ ls.length * 40 ≤ 140737488355328
inductive TmS (w : World) (S : Nat → Prop) : Pl → Tm → Prop
  | mk {p : Pl} {k n : Int} {nm : ByteArray} {lv : Lv} {ls : List Lv} {ks : List Tm} (q : Nat → Pl) (hlv : LvS w S p.A p.c lv) (hls : LvS w S p.B p.d (.mk 0 0 ls)) (hc : ks.length ≤ p.e) (hm : p.e ≤ 9223372036854775807) (hf : Fit n nm ls)
      (hcell : ∀ (i : Nat) (x : Tm), ks[i]? = some x → KidAt w S p.K i (q i) x) (hk : ∀ (i : Nat) (x : Tm), ks[i]? = some x → TmS w S (q i) x) : TmS w S p (.mk k n nm lv ls ks)
abbrev TmIn (w : World) (B : Nat) : Pl → Tm → Prop := TmS w fun k => k < B
theorem KidAt.same {w w' : World} {S : Nat → Prop} {K : Option Addr} {i : Nat} {q : Pl} {x : Tm} (h : KidAt w S K i q x) (hs : ∀ k, S k → k < w.heap.size → w'.heap[k]? = w.heap[k]?) : KidAt w' S K i q x := by
  obtain ⟨b, o, e, hb, hc⟩ := h
  have hz : b < w.heap.size := World.block_lt_of_cell? w _ (hc 0 _ rfl)
  exact ⟨b, o, e, hb, fun j v hv => (cell_same (hs b hb hz)).trans (hc j v hv)⟩
theorem KidAt.mono {w : World} {S S' : Nat → Prop} {K : Option Addr} {i : Nat} {q : Pl} {x : Tm} (h : KidAt w S K i q x) (hs : ∀ k, S k → k < w.heap.size → S' k) : KidAt w S' K i q x := by
  obtain ⟨b, o, e, hb, hc⟩ := h
  exact ⟨b, o, e, hs b hb (World.block_lt_of_cell? w _ (hc 0 _ rfl)), hc⟩
theorem TmS.same {w w' : World} {S : Nat → Prop} {p : Pl} {t : Tm} (h : TmS w S p t) (hs : ∀ k, S k → k < w.heap.size → w'.heap[k]? = w.heap[k]?) : TmS w' S p t := by
  induction h with
  | mk q hlv hls hc hm hf hcell _ ih => exact .mk q (hlv.same hs) (hls.same hs) hc hm hf (fun i x hx => (hcell i x hx).same hs) ih
theorem TmS.mono {w : World} {S S' : Nat → Prop} {p : Pl} {t : Tm} (h : TmS w S p t) (hs : ∀ k, S k → k < w.heap.size → S' k) : TmS w S' p t := by
  induction h with
  | mk q hlv hls hc hm hf hcell _ ih => exact .mk q (hlv.mono hs) (hls.mono hs) hc hm hf (fun i x hx => (hcell i x hx).mono hs) ih
theorem TmS.later {w w' : World} {S : Nat → Prop} {p : Pl} {t : Tm} (h : TmS w S p t) (hb : Below w.heap.size w w') : TmS w' S p t := h.same fun k _ hk => hb.block k hk
theorem TmIn.stay {w w' : World} {B : Nat} {p : Pl} {t : Tm} (h : TmIn w B p t) (hb : Below B w w') : TmIn w' B p t := TmS.same h fun k hk _ => hb.block k hk
theorem TmS.all {w : World} {S : Nat → Prop} {p : Pl} {t : Tm} (h : TmS w S p t) : TmIn w w.heap.size p t := h.mono fun _ _ hk => hk
theorem TmIn.mono {w : World} {B B' : Nat} {p : Pl} {t : Tm} (h : TmIn w B p t) (hB : B ≤ B') : TmIn w B' p t := TmS.mono h fun _ hk _ => Nat.lt_of_lt_of_le hk hB
theorem TmS.lv {w : World} {S : Nat → Prop} {p : Pl} {t : Tm} (h : TmS w S p t) : LvS w S p.A p.c t.lv := by cases h; assumption
theorem TmS.ls {w : World} {S : Nat → Prop} {p : Pl} {t : Tm} (h : TmS w S p t) : LvS w S p.B p.d (.mk 0 0 t.ls) := by cases h; assumption
theorem TmS.len {w : World} {S : Nat → Prop} {p : Pl} {t : Tm} (h : TmS w S p t) : t.kids.length ≤ p.e ∧ p.e ≤ 9223372036854775807 := by
  cases h with
  | mk q hlv hls hc hm hf hcell hk => exact ⟨hc, hm⟩
theorem TmS.fit {w : World} {S : Nat → Prop} {p : Pl} {t : Tm} (h : TmS w S p t) : Fit t.num t.name t.ls := by
  cases h with
  | mk q hlv hls hc hm hf hcell hk => exact hf
theorem TmS.kid {w : World} {S : Nat → Prop} {p : Pl} {t : Tm} (h : TmS w S p t) : ∃ q : Nat → Pl, ∀ (i : Nat) (x : Tm), t.kids[i]? = some x → KidAt w S p.K i (q i) x ∧ TmS w S (q i) x := by
  cases h with
  | mk q hlv hls hc hm hf hcell hk => exact ⟨q, fun i x hx => ⟨hcell i x hx, hk i x hx⟩⟩
/-! ### kinds, kids that count -/
def arZ (k : Int) : Int := if k = 1 ∨ k = 2 ∨ k = 7 then 0 else if k = 3 ∨ k = 4 ∨ k = 6 then 2 else if k = 5 then 3 else -1
theorem arZ_in (k : Int) : -1 ≤ arZ k ∧ arZ k ≤ 3 := by unfold arZ; split; omega; split; omega; split <;> omega
/-- How many kids count. -/
def nK (t : Tm) : Nat := if (t.kids.length : Int) < arZ t.kind then 0 else (arZ t.kind).toNat
theorem nK_le (t : Tm) : nK t ≤ t.kids.length := by unfold nK; have := arZ_in t.kind; split <;> omega
theorem nK_le3 (t : Tm) : nK t ≤ 3 := by unfold nK; have := arZ_in t.kind; split <;> omega
/-- Beneath how many binders more kid i stands. -/
def moreZ (t : Tm) (i : Nat) : Int := if (i : Int) = arZ t.kind - 1 ∧ t.kind ≠ 6 then 1 else 0
theorem moreZ_in (t : Tm) (i : Nat) : 0 ≤ moreZ t i ∧ moreZ t i ≤ 1 := by unfold moreZ; split <;> omega
def kidF (t : Tm) (i : Fin (nK t)) : Tm := t.kids[i.1]'(Nat.lt_of_lt_of_le i.2 (nK_le t))
theorem kidF_get (t : Tm) (i : Fin (nK t)) : t.kids[i.1]? = some (kidF t i) := List.getElem?_eq_getElem _
theorem kidF_lt (t : Tm) (i : Fin (nK t)) : SizeOf.sizeOf (kidF t i) < SizeOf.sizeOf t := by
  obtain ⟨k, n, nm, lv, ls, ks⟩ := t
  have h : SizeOf.sizeOf (kidF (.mk k n nm lv ls ks) i) < SizeOf.sizeOf ks := List.sizeOf_lt_of_mem (List.getElem_mem _)
  simp only [Tm.mk.sizeOf_spec]
  omega
def leafT (t : Tm) : Bool := decide (nK t = 0)
/-! ### one after the other, as long as it is true -/
def runL {α σ : Type} (f : α → σ → Bool × σ) : List α → σ → Bool × σ
  | [], s => (true, s)
  | i :: r, s => if (f i s).1 = true then runL f r (f i s).2 else (false, (f i s).2)
theorem runL_snoc {α σ : Type} (f : α → σ → Bool × σ) (pre : List α) (x : α) : ∀ s : σ, runL f (pre ++ [x]) s = if (runL f pre s).1 = true then f x (runL f pre s).2 else runL f pre s := by
  induction pre with
  | nil =>
    intro s
    show (if (f x s).1 = true then (true, (f x s).2) else (false, (f x s).2)) = if true = true then f x s else (true, s)
    rw [if_pos rfl]
    cases h : (f x s).1 <;> simp [h] <;> (rw [← h])
  | cons y r ih =>
    intro s
    rw [List.cons_append, runL, runL]
    by_cases h : (f y s).1 = true
    · rw [if_pos h, if_pos h, ih]
    · rw [if_neg h, if_neg h]; rfl
theorem runL_false {α σ : Type} (f : α → σ → Bool × σ) {pre xs : List α} (hp : pre <+: xs) : ∀ s : σ, (runL f pre s).1 = false → runL f xs s = runL f pre s := by
  obtain ⟨r, rfl⟩ := hp
  induction pre with
  | nil => intro s h; cases h
  | cons y q ih =>
    intro s h
    rw [List.cons_append, runL, runL] at *
    by_cases hy : (f y s).1 = true
    · rw [if_pos hy] at h; rw [if_pos hy, if_pos hy]; exact ih _ h
    · rw [if_neg hy, if_neg hy]
/-- A term's nodes, a node ahead of its kids, as long as the visit says true. -/
def foldP {σ : Type} (F : Tm → Int → Int → σ → Bool × σ) (t : Tm) (d b : Int) (s : σ) : Bool × σ :=
  if (F t d b s).1 = true then runL (fun (i : Fin (nK t)) s => foldP F (kidF t i) (d + 1) (b + moreZ t i) s) (List.finRange (nK t)) (F t d b s).2 else (false, (F t d b s).2)
termination_by SizeOf.sizeOf t
decreasing_by exact kidF_lt t i
theorem foldP_go {σ : Type} {F : Tm → Int → Int → σ → Bool × σ} {t : Tm} {d b : Int} {s : σ} (h : (F t d b s).1 = true) :
    foldP F t d b s = runL (fun (i : Fin (nK t)) s => foldP F (kidF t i) (d + 1) (b + moreZ t i) s) (List.finRange (nK t)) (F t d b s).2 := by rw [foldP, if_pos h]
theorem foldP_stop {σ : Type} {F : Tm → Int → Int → σ → Bool × σ} {t : Tm} {d b : Int} {s : σ} (h : (F t d b s).1 = false) : foldP F t d b s = F t d b s := by
  rw [foldP, if_neg (by rw [h]; decide)]; exact Prod.ext h.symm rfl
end Go.Proofs.Ytcgkeolgflphiaa

/-! TmK -/
namespace Go.Proofs.Ytcgkeolgflphiaa
open Go.RowKit Go.Shelf Go.Proofs.YtcgkeolgflphiaaW.PrintWords Go.RegionInvYtcgkeolgflphiaa
attribute [local go_sem] Oper.semAt_some

theorem tar_calls (k : Int) (w : World) : Calls Try.prog 83 #[.int .i64 k] w fun e w' => e = .returned (.int .i64 (arZ k)) ∧ w' = w := by
  go_enter Try.func83, Try.ntmps83
  by_cases h1 : k = 1
  · subst h1; go_wp2; go_ret; exact ⟨rfl, rfl⟩
  · by_cases h2 : k = 2
    · subst h2; go_wp2; go_ret; exact ⟨rfl, rfl⟩
    · by_cases h7 : k = 7
      · subst h7; go_wp2; go_ret; exact ⟨rfl, rfl⟩
      · by_cases h3 : k = 3
        · subst h3; go_wp2; go_ret; exact ⟨rfl, rfl⟩
        · by_cases h4 : k = 4
          · subst h4; go_wp2; go_ret; exact ⟨rfl, rfl⟩
          · by_cases h6 : k = 6
            · subst h6; go_wp2; go_ret; exact ⟨rfl, rfl⟩
            · by_cases h5 : k = 5
              · subst h5; go_wp2; go_ret; exact ⟨rfl, rfl⟩
              · have HE := Aside0.mk (show arZ k = -1 by unfold arZ; rw [if_neg (by omega), if_neg (by omega), if_neg h5])
                have b1 : (k == 1) = false := by simp [h1]
                have b2 : (k == 2) = false := by simp [h2]
                have b3 : (k == 3) = false := by simp [h3]
                have b4 : (k == 4) = false := by simp [h4]
                have b5 : (k == 5) = false := by simp [h5]
                have b6 : (k == 6) = false := by simp [h6]
                have b7 : (k == 7) = false := by simp [h7]
                go_wp2
                go_ret
                rw [HE.out]
                exact ⟨rfl, rfl⟩
/-- The box of a term. -/
abbrev tmO (p : Pl) (t : Tm) : Obj := .cells #[.int .i64 t.kind, .int .i64 t.num, .string t.name, .int .i64 t.lv.kind, .int .i64 t.lv.num, .slice p.A t.lv.kids.length p.c, .slice p.B t.ls.length p.d, .slice p.K t.kids.length p.e] 27 (0, 0)
theorem row8 {w : World} {g : Nat} {p : Pl} {t : Tm} (h : w.heap[g]? = some (tmO p t)) :
    w.cell? ⟨g, 0, none⟩ = some (.int .i64 t.kind) ∧ w.cell? ⟨g, 1, none⟩ = some (.int .i64 t.num) ∧ w.cell? ⟨g, 2, none⟩ = some (.string t.name) ∧ w.cell? ⟨g, 3, none⟩ = some (.int .i64 t.lv.kind) ∧ w.cell? ⟨g, 4, none⟩ = some (.int .i64 t.lv.num) ∧
      w.cell? ⟨g, 5, none⟩ = some (.slice p.A t.lv.kids.length p.c) ∧ w.cell? ⟨g, 6, none⟩ = some (.slice p.B t.ls.length p.d) ∧ w.cell? ⟨g, 7, none⟩ = some (.slice p.K t.kids.length p.e) := by
  refine ⟨?_, ?_, ?_, ?_, ?_, ?_, ?_, ?_⟩ <;> (rw [cell_of_row _ _ _ _ _ _ h]; rfl)
theorem tkids_calls (p : Pl) (t : Tm) (w : World) : Calls Try.prog 82 #[tmV p t] w fun e w' => e = .returned (.func (.func 99) #[] #[.pointer (some ⟨w.heap.size, 0, none⟩)]) ∧ w' = w.alloc (tmO p t) := by
  unfold tmV
  go_enter Try.func82, Try.ntmps82
  go_wp2
  go_ret
  exact ⟨rfl, rfl⟩
/-- What a round keeps: blocks below n₀, but for those of G. -/
structure KpG (n₀ : Nat) (G : Nat → Prop) (W W' : World) : Prop where
  size : W.heap.size ≤ W'.heap.size
  block : ∀ k, k < n₀ → ¬ G k → W'.heap[k]? = W.heap[k]?
theorem kpG_refl (n₀ : Nat) (G : Nat → Prop) (W : World) : KpG n₀ G W W := ⟨Nat.le_refl _, fun _ _ _ => rfl⟩
theorem kpG_trans {n₀ : Nat} {G : Nat → Prop} {A B C : World} (h : KpG n₀ G A B) (k : KpG n₀ G B C) : KpG n₀ G A C := ⟨Nat.le_trans h.size k.size, fun i hi hg => (k.block i hi hg).trans (h.block i hi hg)⟩
theorem kpG_put {n₀ : Nat} {G : Nat → Prop} {w : World} (hn : n₀ ≤ w.heap.size) (W : World) (l : Nat) (o o' : Obj) (hl : w.heap.size ≤ l) (_ : W.heap[l]? = some o) (_ : o.isCells = false) (_ : o.isWalk = false) : KpG n₀ G W (W.putObj l o') :=
  ⟨by simp, fun k hk _ => World.putObj_heap_other (by omega)⟩
abbrev encK (t : Tm) (q : Nat → Pl) (i : Fin (nK t)) : Array Value := #[.int .i64 (moreZ t i), tmV (q i) (kidF t i)]
theorem take_fin {n k : Nat} (h : k < n) : (List.finRange n).take (k + 1) = (List.finRange n).take k ++ [⟨k, h⟩] := by
  rw [List.take_add_one, List.getElem?_eq_getElem (by simpa using h)]
  simp
set_option maxRecDepth 100000 in
set_option maxHeartbeats 4000000 in
theorem kids1_in (n : Nat) (hn : 1 ≤ n) (p : Pl) (t : Tm) (q : Nat → Pl) (l z n₀ : Nat) (G S : Nat → Prop) (J Jx : List (Fin (nK t)) → World → Prop)
    (hY : ∀ (pre : List (Fin (nK t))) (x : Fin (nK t)) (W : World), J pre W → pre.length < nK t → YieldAt Fence.wide (n - 1) Try.prog l (encK t q x) W fun e W' =>
      (e = .returned (.bool true) ∧ J (pre ++ [x]) W' ∧ KpG n₀ G W W') ∨ (e = .returned (.bool false) ∧ Jx (pre ++ [x]) W'))
    (W : World) (hz : W.heap[z]? = some (tmO p t)) (hz0 : z < n₀) (hzG : ¬ G z) (hS : ∀ k, S k → k < n₀ ∧ ¬ G k) (hlen : t.kids.length ≤ 9223372036854775807) (hkid : ∀ (i : Nat) (x : Tm), t.kids[i]? = some x → KidAt W S p.K i (q i) x) (h0 : J [] W) :
    CallsIn Fence.wide n Try.prog 99 #[.func (.yield l) #[] #[], .pointer (some ⟨z, 0, none⟩)] W fun e W' => (∃ v, e = .returned v) ∧
      ((∃ ys, ys = List.finRange (nK t) ∧ J ys W') ∨ (∃ pre, pre <+: List.finRange (nK t) ∧ Jx pre W')) := by
  refine callsIn_of_wp Try.func99 rfl trivial ?_ rfl
  simp only [Try.ntmps99, List.size_toArray, List.length_cons, List.length_nil, Nat.reduceAdd, Nat.reduceSub, Array.replicate_succ, Array.replicate_zero, List.push_toArray, List.append_toArray, List.nil_append, List.cons_append]
  obtain ⟨pA, pc, pB, pd, pK, pe⟩ := p
  obtain ⟨c0, c1, c2, c3, c4, c5, c6, c7⟩ := row8 hz
  dsimp only at c5 c6 c7
  have HZ := Aside0.mk hz
  have HK := Aside0.mk hkid
  have HS := Aside0.mk hS
  have har := arZ_in t.kind
  obtain ⟨L, hL⟩ : ∃ L, L = t.kids.length := ⟨_, rfl⟩
  have HL := Aside0.mk hL
  rw [← hL] at c7 hlen
  have HN := Aside0.mk (show nK t = if (L : Int) < arZ t.kind then 0 else (arZ t.kind).toNat by rw [hL]; rfl)
  obtain ⟨ar, hra⟩ : ∃ ar, ar = arZ t.kind := ⟨_, rfl⟩
  have HAC := Aside0.mk (show Calls Try.prog 83 #[.int .i64 t.kind] W fun e w' => e = .returned (.int .i64 ar) ∧ w' = W by rw [hra]; exact tar_calls _ _)
  have HAR := Aside0.mk hra
  rw [← hra] at har HN
  clear hz hkid hS hL hra
  by_cases hlt : (L : Int) < ar
  · have hd : decide ((L : Int) < ar) = true := decide_eq_true hlt
    have HN0 := Aside0.mk (show nK t = 0 by rw [HN.out, if_pos hlt])
    gi_wp2_with (refine ⟨trivial, ?_⟩; gi_at_call 83; refine (callsIn_wide.2 HAC.out).mono ?_; rintro e w' ⟨rfl, hw⟩; rw [hw]; clear hw w')
    refine bodyPost_ret (results_none rfl _ _ _) rfl ?_
    refine ⟨⟨_, rfl⟩, .inl ⟨_, rfl, ?_⟩⟩
    have : List.finRange (nK t) = [] := List.eq_nil_of_length_eq_zero (by simp [HN0.out])
    rw [this]; exact h0
  · by_cases hpos : ar ≤ 0
    · have HN0 := Aside0.mk (show nK t = 0 by rw [HN.out, if_neg hlt]; omega)
      gi_wp2_with (refine ⟨trivial, ?_⟩; gi_at_call 83; refine (callsIn_wide.2 HAC.out).mono ?_; rintro e w' ⟨rfl, hw⟩; rw [hw]; clear hw w')
      gi_loopw [16] (fun i wr => i = .int .i64 0 ∧ J [] wr) (fun _ _ => 0)
      case atStart => exact ⟨rfl, h0⟩
      case round =>
        obtain ⟨rfl, hJs⟩ := hrel
        gi_wp2
        go_end0
        refine ⟨⟨_, rfl⟩, .inl ⟨_, rfl, ?_⟩⟩
        have : List.finRange (nK t) = [] := List.eq_nil_of_length_eq_zero (by simp [HN0.out])
        rw [this]; exact hJs
    obtain ⟨m, rfl⟩ : ∃ m : Nat, ar = (m : Int) := ⟨ar.toNat, by omega⟩
    have HNM := Aside0.mk (show nK t = m by rw [HN.out, if_neg hlt]; omega)
    have hm3 : m ≤ 3 := by omega
    have hm0 : 0 < m := by omega
    have hmL : m ≤ L := by omega
    have hd2 : decide (L < m) = false := decide_eq_false (by omega)
    clear hlt hpos har
    gi_wp2_with (refine ⟨trivial, ?_⟩; gi_at_call 83; refine (callsIn_wide.2 HAC.out).mono ?_; rintro e w' ⟨rfl, hw⟩; rw [hw]; clear hw w')
    gi_loopw [16] (fun i wr => ∃ k : Nat, k ≤ m ∧ i = .int .i64 k ∧ J ((List.finRange (nK t)).take k) wr ∧ KpG n₀ G W wr) (fun i _ => m - (intOf i).toNat)
    case atStart => exact ⟨0, Nat.zero_le _, rfl, h0, kpG_refl _ _ _⟩
    case round =>
      clear c0 c1 c2 c3 c4 c5 c6 c7
      obtain ⟨k, hk, rfl, hJs, hkp⟩ := hrel
      have HZR := Aside0.mk ((hkp.block z hz0 hzG).trans HZ.out)
      obtain ⟨c0, c1, c2, c3, c4, c5, c6, c7⟩ := row8 HZR.out
      dsimp only at c5 c6 c7
      rw [← HL.out] at c7
      by_cases hlk : k < m
      · have hkn : k < nK t := by rw [HNM.out]; exact hlk
        obtain ⟨fn, tmps, assign, body, hy, hR⟩ := hY _ ⟨k, hkn⟩ wr hJs (by simp; omega)
        unfold encK tmV at hy
        dsimp only at hy
        have HTK := Aside0.mk (take_fin hkn)
        obtain ⟨b, o, hKa, hSb, hcells⟩ := (HK.out k _ (kidF_get t ⟨k, hkn⟩)).same (w' := wr) fun j hj _ => hkp.block j (HS.out j hj).1 (HS.out j hj).2
        obtain ⟨x, hx⟩ : ∃ x, x = kidF t ⟨k, hkn⟩ := ⟨_, rfl⟩
        rw [← hx] at hy hcells
        subst hKa
        have e0 := hcells 0 _ rfl
        have e1 := hcells 1 _ rfl
        have e2 := hcells 2 _ rfl
        have e3 := hcells 3 _ rfl
        have e4 := hcells 4 _ rfl
        have e5 := hcells 5 _ rfl
        have e6 := hcells 6 _ rfl
        have e7 := hcells 7 _ rfl
        clear hcells hx
        rw [Nat.add_zero] at e0
        by_cases hkm : (k : Int) = (m : Int) - 1
        · have hb1 : ((k : Int) == (m : Int) - 1) = true := by simp [hkm]
          have HKM := Aside0.mk hkm
          clear hkm
          by_cases h6 : t.kind = 6
          · have hb6 : (t.kind != 6) = false := by simp [h6]
            have H6 := Aside0.mk h6
            clear h6
            have HM := Aside0.mk (show moreZ t k = 0 by unfold moreZ; rw [← HAR.out, if_neg (fun h => h.2 H6.out)])
            rw [HM.out] at hy
            gi_wp2
            refine hR.mono ?_
            rintro e W3 (⟨rfl, hJ3, hk3⟩ | ⟨rfl, hJx3⟩)
            · gi_wp2
              go_roundw
              case rel => exact ⟨k + 1, by omega, by go_num, by rw [HTK.out]; exact hJ3, kpG_trans hkp hk3⟩
              case measure => (simp [intOf]; try omega)
            · gi_wp2
              refine bodyPost_ret (results_none rfl _ _ _) rfl ?_
              exact ⟨⟨_, rfl⟩, .inr ⟨_, by rw [← HTK.out]; exact List.take_prefix _ _, hJx3⟩⟩
          · have hb6 : (t.kind != 6) = true := by simp [h6]
            have HM := Aside0.mk (show moreZ t k = 1 by unfold moreZ; rw [← HAR.out, if_pos ⟨HKM.out, h6⟩])
            rw [HM.out] at hy
            gi_wp2
            refine hR.mono ?_
            rintro e W3 (⟨rfl, hJ3, hk3⟩ | ⟨rfl, hJx3⟩)
            · gi_wp2
              go_roundw
              case rel => exact ⟨k + 1, by omega, by go_num, by rw [HTK.out]; exact hJ3, kpG_trans hkp hk3⟩
              case measure => (simp [intOf]; try omega)
            · gi_wp2
              refine bodyPost_ret (results_none rfl _ _ _) rfl ?_
              exact ⟨⟨_, rfl⟩, .inr ⟨_, by rw [← HTK.out]; exact List.take_prefix _ _, hJx3⟩⟩
        · have hb1 : ((k : Int) == (m : Int) - 1) = false := by simp [hkm]
          have HKM := Aside0.mk hkm
          clear hkm
          have HM := Aside0.mk (show moreZ t k = 0 by unfold moreZ; rw [← HAR.out, if_neg (fun h => HKM.out h.1)])
          rw [HM.out] at hy
          gi_wp2
          refine hR.mono ?_
          rintro e W3 (⟨rfl, hJ3, hk3⟩ | ⟨rfl, hJx3⟩)
          · gi_wp2
            go_roundw
            case rel => exact ⟨k + 1, by omega, by go_num, by rw [HTK.out]; exact hJ3, kpG_trans hkp hk3⟩
            case measure => (simp [intOf]; try omega)
          · gi_wp2
            refine bodyPost_ret (results_none rfl _ _ _) rfl ?_
            exact ⟨⟨_, rfl⟩, .inr ⟨_, by rw [← HTK.out]; exact List.take_prefix _ _, hJx3⟩⟩
      · obtain rfl : k = m := by omega
        have hlk' : decide ((k : Int) < k) = false := by simp
        gi_wp2
        go_end0
        exact ⟨⟨_, rfl⟩, .inl ⟨_, rfl, by rwa [List.take_of_length_le (by simp [HNM.out])] at hJs⟩⟩
theorem kids_stops (n : Nat) (hn : 1 ≤ n) (p : Pl) (t : Tm) (q : Nat → Pl) (z n₀ : Nat) (G S : Nat → Prop) (w : World) (hz : w.heap[z]? = some (tmO p t)) (hz0 : z < n₀) (hn0 : n₀ ≤ w.heap.size) (hzG : ¬ G z) (hS : ∀ k, S k → k < n₀ ∧ ¬ G k)
    (hlen : t.kids.length ≤ 9223372036854775807) (hkid : ∀ (i : Nat) (x : Tm), t.kids[i]? = some x → KidAt w S p.K i (q i) x) :
    SeqStopsK Fence.wide n Try.prog 99 #[.pointer (some ⟨z, 0, none⟩)] (encK t q) (KpG n₀ G) (fun ys => ys = List.finRange (nK t)) (fun pre => pre <+: List.finRange (nK t)) (nK t) w := fun l J Jx W hW _ _ hY h0 =>
  kids1_in n hn p t q l z n₀ G S J Jx hY W (blk_below hz hW) hz0 hzG hS hlen (fun i x hx => (hkid i x hx).same fun k _ hk => hW.block k hk) h0
/-- New blocks; then blocks of G, or such new ones. -/
theorem chg_cut {G : Nat → Prop} {w w0 w1 w2 : World} (h0 : Chg G w w0) (h1 : Chg (fun k => G k ∨ w.heap.size ≤ k) w0 w1) (h2 : Chg (fun k => G k ∨ w.heap.size ≤ k) w1 w2) : Chg G w w2 := by
  have hz0 := h0.size
  have hz1 := h1.size
  have hz2 := h2.size
  refine ⟨h2.os.trans (h1.os.trans h0.os), h2.tape.trans (h1.tape.trans h0.tape), h2.output.trans (h1.output.trans h0.output), by omega, fun k hk hg => ?_⟩
  have hn : ¬ (G k ∨ w.heap.size ≤ k) := fun h => h.elim hg (by omega)
  exact (h2.block k (by omega) hn).trans ((h1.block k (by omega) hn).trans (h0.block k hk hg))
theorem chg_grown {S : Nat → Prop} {w X Y : World} {row : Option Nat} (h : Chg S w X) (hg : X.grownBy Y row) (hr : ∀ r, row = some r → w.heap.size ≤ r) : Chg S w Y :=
  ⟨hg.os.trans h.os, hg.tape.trans h.tape, hg.output.trans h.output, Nat.le_trans h.size hg.size, fun k hk hn => (hg.block k (Nat.lt_of_lt_of_le hk h.size) (fun e => by have := hr k e.symm; omega)).trans (h.block k hk hn)⟩
theorem KeepsFrom.of_chg {S : Nat → Prop} {B : Nat} {W W' : World} (h : Chg S W W') (hS : ∀ k, S k → k < B) : Go.KeepsFrom B W W' :=
  ⟨h.size, fun k o hB ho _ => (h.block k (Array.getElem?_eq_some_iff.1 ho).1 (fun hs => by have := hS k hs; omega)).trans ho⟩
theorem chg_put (W : World) (D : Nat) (o : Obj) : Chg (fun k => k = D) W (W.putObj D o) := ⟨rfl, rfl, rfl, by simp, fun k _ hn => World.putObj_heap_other (fun e => hn (by omega))⟩
/-- What a call of fold, or of a visit, leaves. -/
def FoldPost {σ : Type} (Rep : σ → World → Prop) (G : Nat → Prop) (w : World) (r : Bool × σ) (e : Ending) (w' : World) : Prop := e = .returned (.bool r.1) ∧ Rep r.2 w' ∧ Chg G w w'
theorem foldP_inv {σ : Type} {F : Tm → Int → Int → σ → Bool × σ} {Inv : σ → Prop} {P : Tm → Int → Prop} (hF : ∀ (t : Tm) (d b : Int) (s : σ), P t d → Inv s → (F t d b s).1 = true → Inv (F t d b s).2 ∧ ∀ i : Fin (nK t), P (kidF t i) (d + 1)) (N : Nat) :
    ∀ (t : Tm), SizeOf.sizeOf t < N → ∀ (d b : Int) (s : σ), P t d → Inv s → (foldP F t d b s).1 = true → Inv (foldP F t d b s).2 := by
  induction N with
  | zero => intro t h; omega
  | succ N ih =>
    intro t hN d b s hP hI h
    by_cases h1 : (F t d b s).1 = true
    · rw [foldP_go h1] at h ⊢
      have h2 := hF t d b s hP hI h1
      have key : ∀ (xs : List (Fin (nK t))) (s : σ), Inv s → (runL (fun (i : Fin (nK t)) s => foldP F (kidF t i) (d + 1) (b + moreZ t i) s) xs s).1 = true → Inv (runL (fun (i : Fin (nK t)) s => foldP F (kidF t i) (d + 1) (b + moreZ t i) s) xs s).2 := by
        intro xs
        induction xs with
        | nil => intro s hs _; exact hs
        | cons x r ihr =>
          intro s hs h
          rw [runL] at h ⊢
          by_cases hx : (foldP F (kidF t x) (d + 1) (b + moreZ t x) s).1 = true
          · rw [if_pos hx] at h ⊢
            exact ihr _ (ih (kidF t x) (by have := kidF_lt t x; omega) _ _ _ (h2.2 x) hs hx) h
          · rw [if_neg hx] at h; cases h
      exact key _ _ h2.1 h
    · rw [foldP_stop (by simpa using h1)] at h; exact absurd h h1
end Go.Proofs.Ytcgkeolgflphiaa

/-! FoMa -/
namespace Go.Proofs.Ytcgkeolgflphiaa
open Go.RowKit Go.Shelf Go.Proofs.YtcgkeolgflphiaaW.PrintWords Go.RegionInvYtcgkeolgflphiaa
attribute [local go_sem] Oper.semAt_some

abbrev vfMa (g1 g2 g3 : Nat) : Value := .func (.func 62) #[] #[.pointer (some ⟨g1, 0, none⟩), .pointer (some ⟨g2, 0, none⟩), .pointer (some ⟨g3, 0, none⟩)]
abbrev foWMa (w : World) (p : Pl) (t : Tm) (d b : Int) (g1 g2 g3 : Nat) : World :=
  ((((w.alloc (tmO p t)).alloc (.cells #[.int .i64 d] 3 (0, 0))).alloc (.cells #[.int .i64 b] 3 (0, 0))).alloc (.cells #[vfMa g1 g2 g3] 92 (0, 0))).alloc (.cells #[.bool false] 4 (0, 0))
set_option maxRecDepth 100000 in
set_option maxHeartbeats 16000000 in
theorem fold_Ma {σ : Type} (F : Tm → Int → Int → σ → Bool × σ) (Rep : σ → World → Prop) (Inv : σ → Prop) (P : Tm → Int → Prop) (G : Nat → Prop) (B g0 : Nat) (g1 g2 g3 : Nat)
    (hG : ∀ k, G k → B ≤ k ∧ k < g0) (hBg : B ≤ g0) (hRep : ∀ (s : σ) (W W' : World), Rep s W → (∀ k, G k → W'.heap[k]? = W.heap[k]?) → Rep s W')
    (hvis : ∀ (t : Tm) (p : Pl) (d b : Int) (s : σ) (w : World), P t d → 0 ≤ b → b ≤ d → Inv s → g0 ≤ w.heap.size → TmIn w B p t → Rep s w → Calls Try.prog 62 #[tmV p t, .int .i64 d, .int .i64 b, .pointer (some ⟨g1, 0, none⟩), .pointer (some ⟨g2, 0, none⟩), .pointer (some ⟨g3, 0, none⟩)] w (FoldPost Rep G w (F t d b s)))
    (hF : ∀ (t : Tm) (d b : Int) (s : σ), P t d → Inv s → (F t d b s).1 = true → Inv (F t d b s).2 ∧ ∀ i : Fin (nK t), P (kidF t i) (d + 1)) (hP : ∀ t d, P t d → 0 ≤ d ∧ d ≤ 100000)
    (N : Nat) : ∀ (t : Tm), SizeOf.sizeOf t < N → ∀ (p : Pl) (d b : Int) (s : σ) (w : World), P t d → 0 ≤ b → b ≤ d → Inv s → g0 ≤ w.heap.size → TmIn w B p t → Rep s w →
    Calls Try.prog 61 #[tmV p t, .int .i64 d, .int .i64 b, vfMa g1 g2 g3] w (FoldPost Rep G w (foldP F t d b s)) := by
  induction N with
  | zero => intro t h; omega
  | succ N ih =>
    intro t hN p d b s w hPd hb0 hbd hI hg hin hR
    have IH := Aside0.mk ih
    have HG := Aside0.mk hG
    have HRP := Aside0.mk hRep
    have HVS := Aside0.mk hvis
    have HF := Aside0.mk hF
    have HP := Aside0.mk hPd
    have HI := Aside0.mk hI
    have HIN := Aside0.mk hin
    have HR := Aside0.mk hR
    have HNN := Aside0.mk hN
    have hd := hP t d hPd
    have HPP := Aside0.mk hP
    have hz0 : (foWMa w p t d b g1 g2 g3).heap.size = w.heap.size + 5 := by simp
    have hb0w : Below w.heap.size w (foWMa w p t d b g1 g2 g3) := below_alloc (below_alloc (below_alloc (below_alloc (below_alloc (Below.refl _ _) _) _) _) _) _
    have HZ0 := Aside0.mk hz0
    have HB0 := Aside0.mk hb0w
    have HX0 := Aside0.mk (show (foWMa w p t d b g1 g2 g3).heap[w.heap.size]? = some (tmO p t) from blk_alloc (blk_alloc (blk_alloc (blk_alloc (blk_new _ _) _) _) _) _)
    have HX1 := Aside0.mk (show (foWMa w p t d b g1 g2 g3).heap[w.heap.size + 1]? = some (.cells #[.int .i64 d] 3 (0, 0)) by have := blk_new (w.alloc (tmO p t)) (.cells #[.int .i64 d] 3 (0, 0)); simp only [World.size_alloc] at this; exact blk_alloc (blk_alloc (blk_alloc this _) _) _)
    have HX2 := Aside0.mk (show (foWMa w p t d b g1 g2 g3).heap[w.heap.size + 1 + 1]? = some (.cells #[.int .i64 b] 3 (0, 0)) by have := blk_new ((w.alloc (tmO p t)).alloc (.cells #[.int .i64 d] 3 (0, 0))) (.cells #[.int .i64 b] 3 (0, 0)); simp only [World.size_alloc] at this; exact blk_alloc (blk_alloc this _) _)
    have HX3 := Aside0.mk (show (foWMa w p t d b g1 g2 g3).heap[w.heap.size + 1 + 1 + 1]? = some (.cells #[vfMa g1 g2 g3] 92 (0, 0)) by have := blk_new (((w.alloc (tmO p t)).alloc (.cells #[.int .i64 d] 3 (0, 0))).alloc (.cells #[.int .i64 b] 3 (0, 0))) (.cells #[vfMa g1 g2 g3] 92 (0, 0)); simp only [World.size_alloc] at this; exact blk_alloc this _)
    have HX4 := Aside0.mk (show (foWMa w p t d b g1 g2 g3).heap[w.heap.size + 1 + 1 + 1 + 1]? = some (.cells #[.bool false] 4 (0, 0)) by have := blk_new ((((w.alloc (tmO p t)).alloc (.cells #[.int .i64 d] 3 (0, 0))).alloc (.cells #[.int .i64 b] 3 (0, 0))).alloc (.cells #[vfMa g1 g2 g3] 92 (0, 0))) (.cells #[.bool false] 4 (0, 0)); simp only [World.size_alloc] at this; exact this)
    have hR0 : Rep s (foWMa w p t d b g1 g2 g3) := hRep _ _ _ hR fun k hk => hb0w.block k (Nat.lt_of_lt_of_le (hG k hk).2 hg)
    have HR0 := Aside0.mk hR0
    have HIN0 := Aside0.mk (hin.stay (hb0w.mono (Nat.le_trans hBg hg)))
    have HGG := Aside0.mk (show ∀ k, G k → k < w.heap.size from fun k hk => Nat.lt_of_lt_of_le (hG k hk).2 hg)
    clear ih hG hRep hvis hF hPd hI hin hR hN hP hz0 hb0w hR0
    unfold tmV vfMa
    refine (callsIn_wide (n := 5)).1 ?_
    refine callsIn_of_wp_marks Try.func61 rfl trivial ?_ rfl
    simp only [Try.ntmps61, List.size_toArray, List.length_cons, List.length_nil, Nat.reduceAdd, Nat.reduceSub, Array.replicate_succ, Array.replicate_zero, List.push_toArray, List.append_toArray, List.nil_append, List.cons_append]
    obtain ⟨e1, s1, hes⟩ : ∃ x y, F t d b s = (x, y) := ⟨_, _, rfl⟩
    have HV := Aside0.mk hes
    cases e1 with
    | false =>
      have HE := Aside0.mk (show foldP F t d b s = (false, s1) by rw [foldP_stop (by rw [hes]), hes])
      clear hes
      gi_wp2
      refine ⟨trivial, ?_⟩
      gi_at_call 62
      refine (callsIn_wide.2 (HVS.out t p d b s _ HP.out hb0 hbd HI.out (Nat.le_trans hg HB0.out.size) HIN0.out HR0.out)).mono ?_
      rintro e w1 ⟨rfl, hR1, hC1⟩
      rw [HV.out] at hR1 ⊢
      have HR1 := Aside0.mk hR1
      have HC1 := Aside0.mk hC1
      have hx4 := (hC1.block _ (by rw [HZ0.out]; omega) (fun h => by have := HGG.out _ h; omega)).trans HX4.out
      have HX41 := Aside0.mk hx4
      have c4 : w1.cell? ⟨w.heap.size + 1 + 1 + 1 + 1, 0, none⟩ = some (.bool false) := by (rw [cell_of_row _ _ _ _ _ _ hx4]; rfl)
      have f4 := blk_frozen hx4 0
      clear hR1 hC1 hx4
      gi_wp2
      have hc5 : (w1.setCell ⟨w.heap.size + 1 + 1 + 1 + 1, 0, none⟩ (.bool false)).cell? ⟨w.heap.size + 1 + 1 + 1 + 1, 0, none⟩ = some (.bool false) := World.cell?_setCell_same' _ _ _ (by rw [c4]; rfl)
      refine ⟨.bool false, ?_, ?_⟩
      · simp [results, Try.f61, go_sem, hc5]
      · rw [HE.out]
        refine ⟨rfl, HRP.out _ _ _ HR1.out (fun k hk => (chg_set w1 (w.heap.size + 1 + 1 + 1 + 1) 0 (.bool false)).block k (by have := HC1.out.size; have := HZ0.out; have := HGG.out k hk; omega) (fun e => by have := HGG.out k hk; omega)), ?_⟩
        exact chg_cut (Chg.of_below HB0.out) (HC1.out.mono fun k h => .inl h) ((chg_set w1 _ 0 _).mono fun k h => .inr (by have h : k = w.heap.size + 1 + 1 + 1 + 1 := h; omega))
    | true =>
      have h2 := HF.out t d b s HP.out HI.out (by rw [hes])
      rw [hes] at h2
      have HI1 := Aside0.mk h2.1
      have HPK := Aside0.mk h2.2
      have HE := Aside0.mk (show foldP F t d b s = runL (fun (i : Fin (nK t)) s => foldP F (kidF t i) (d + 1) (b + moreZ t i) s) (List.finRange (nK t)) s1 by rw [foldP_go (by rw [hes]), hes])
      clear hes h2
      gi_wp2
      refine ⟨trivial, ?_⟩
      gi_at_call 62
      refine (callsIn_wide.2 (HVS.out t p d b s _ HP.out hb0 hbd HI.out (Nat.le_trans hg HB0.out.size) HIN0.out HR0.out)).mono ?_
      rintro e w1 ⟨rfl, hR1, hC1⟩
      rw [HV.out] at hR1 ⊢
      have HR1 := Aside0.mk hR1
      have HC1 := Aside0.mk hC1
      have hgn : ∀ j, w.heap.size ≤ j → ¬ G j := fun j hj h => by have := HGG.out j h; omega
      have hX0 := (hC1.block w.heap.size (by rw [HZ0.out]; omega) (hgn _ (by omega))).trans HX0.out
      have hX1 := (hC1.block _ (by rw [HZ0.out]; omega) (hgn _ (by omega))).trans HX1.out
      have hX2 := (hC1.block _ (by rw [HZ0.out]; omega) (hgn _ (by omega))).trans HX2.out
      have hX3 := (hC1.block _ (by rw [HZ0.out]; omega) (hgn _ (by omega))).trans HX3.out
      have hX4 := (hC1.block _ (by rw [HZ0.out]; omega) (hgn _ (by omega))).trans HX4.out
      have hz1 := hC1.size
      rw [HZ0.out] at hz1
      have HX01 := Aside0.mk hX0
      have HX11 := Aside0.mk hX1
      have HX21 := Aside0.mk hX2
      have HX31 := Aside0.mk hX3
      have HX41 := Aside0.mk hX4
      have HGN := Aside0.mk hgn
      have HIN1 := Aside0.mk (HIN0.out.same (w' := w1) fun k hk hz => hC1.block k hz (fun h => by have := (HG.out k h).1; omega))
      obtain ⟨c0, c1, c2, c3, c4, c5, c6, c7⟩ := row8 hX0
      clear hR1 hC1 hX0 hX1 hX2 hX3 hX4 hgn
      gi_wp2
      refine ⟨trivial, ?_⟩
      gi_at_call 82
      refine (callsIn_wide.2 (tkids_calls p t _)).mono ?_
      rintro e w2 ⟨rfl, hw2⟩
      have HZX2 := Aside0.mk (show w2.heap[w1.heap.size]? = some (tmO p t) by rw [hw2]; exact blk_new _ _)
      have HB2 := Aside0.mk (show Below w1.heap.size w1 w2 by rw [hw2]; exact below_alloc (Below.refl _ _) _)
      clear hw2 c0 c1 c2 c3 c4 c5 c6 c7
      gi_wp2
      obtain ⟨q, hq⟩ := (HIN1.out.later HB2.out).kid
      have HQ := Aside0.mk hq
      have hlen := HIN1.out.len
      have hz2 := HB2.out.size
      have hzz := blk_lt HZX2.out
      have hgl : ∀ k, G k → k < w2.heap.size := fun k hk => by have := HGG.out k hk; omega
      have HGL := Aside0.mk hgl
      have HINV := Aside0.mk (foldP_inv HF.out)
      clear hq
      refine wpIn_rangeFunc_ownH (F := Fence.wide) rfl (by decide) (gf := 99) (lb := #[.pointer (some ⟨w1.heap.size, 0, none⟩)]) rfl trivial (enters_of Try.func99 (by kernel_rfl) rfl)
        (kids_stops (5 - 1) (by decide) p t q w1.heap.size w2.heap.size G (fun k => k < B) w2 HZX2.out hzz (Nat.le_refl _) (HGN.out _ (by omega)) (fun k hk => ⟨by omega, fun h => by have := (HG.out k h).1; omega⟩) (by omega) (fun i x hx => (HQ.out i x hx).1))
        kpG_trans (kpG_put (Nat.le_refl _)) (Below.refl _ _) (fun _ => rfl)
        (fun pre W => ((runL (fun (i : Fin (nK t)) s => foldP F (kidF t i) (d + 1) (b + moreZ t i) s) pre s1).1 = true ∧ Inv (runL (fun (i : Fin (nK t)) s => foldP F (kidF t i) (d + 1) (b + moreZ t i) s) pre s1).2) ∧ Rep (runL (fun (i : Fin (nK t)) s => foldP F (kidF t i) (d + 1) (b + moreZ t i) s) pre s1).2 W ∧ Chg G w2 W)
        (fun c pre W => (c = .ret ∧ (runL (fun (i : Fin (nK t)) s => foldP F (kidF t i) (d + 1) (b + moreZ t i) s) pre s1).1 = false) ∧ (Rep (runL (fun (i : Fin (nK t)) s => foldP F (kidF t i) (d + 1) (b + moreZ t i) s) pre s1).2 W ∧ W.heap[w.heap.size + 1 + 1 + 1 + 1]? = some (.cells #[.bool false] 4 (0, 0))) ∧ Chg (fun k => G k ∨ k = w.heap.size + 1 + 1 + 1 + 1) w2 W)
        (fun pre X Y row hs hg hr => ⟨hs.1, HRP.out _ X Y hs.2.1 (fun k hk => hg.block k (Nat.lt_of_lt_of_le (HGL.out k hk) hs.2.2.size) (fun e => by have := (hr k e.symm).1; have := HGL.out k hk; omega)), chg_grown hs.2.2 hg (fun r e => (hr r e).1)⟩)
        (fun c pre X Y row hs hg hr => ⟨hs.1, ⟨HRP.out _ X Y hs.2.1.1 (fun k hk => hg.block k (Nat.lt_of_lt_of_le (HGL.out k hk) hs.2.2.size) (fun e => by have := (hr k e.symm).1; have := HGL.out k hk; omega)), (hg.block _ (blk_lt hs.2.1.2) (fun e => by have := (hr _ e.symm).1; omega)).trans hs.2.1.2⟩, chg_grown hs.2.2 hg (fun r e => (hr r e).1)⟩)
        ⟨⟨rfl, HI1.out⟩, HRP.out _ w1 w2 HR1.out (fun k hk => HB2.out.block k (by have := HGG.out k hk; omega)), Chg.refl _ _⟩
        (fun x a' W => ∃ Bx, w2.heap.size ≤ Bx ∧ W.heap[Bx]? = some (tmO (q x) (kidF t x)) ∧ a' = { tmps := #[tmV p t, .int .i64 d, .int .i64 b, vfMa g1 g2 g3, .pointer (some ⟨w.heap.size, 0, none⟩), .pointer (some ⟨w.heap.size + 1, 0, none⟩), .pointer (some ⟨w.heap.size + 1 + 1, 0, none⟩), .pointer (some ⟨w.heap.size + 1 + 1 + 1, 0, none⟩), .pointer (some ⟨w.heap.size + 1 + 1 + 1 + 1, 0, none⟩), .int .i64 (moreZ t x), .pointer (some ⟨Bx, 0, none⟩), vfMa g1 g2 g3, tmV p t, .int .i64 d, .int .i64 b, .bool true, .bool false, tmV p t, .func (.func 99) #[] #[.pointer (some ⟨w1.heap.size, 0, none⟩)], .int .i64 (moreZ t x), tmV (q x) (kidF t x), undef, undef, undef, undef, undef, undef, undef, undef, undef], defers := [] })
        (fun x a' _ X Y row hs hg hr => by obtain ⟨Bx, h1, h2, h3⟩ := hs; exact ⟨Bx, h1, (hg.block _ (blk_lt h2) (fun e => by obtain ⟨o, ho, hc⟩ := (hr _ e.symm).2; rw [h2] at ho; cases ho; cases hc)).trans h2, h3⟩)
        ?assign ?body ?done ?stop
      case assign =>
        rintro l pre x W K ⟨hA, hRW, hCW⟩ hK
        dsimp only [encK, tmV]
        have hAA := Aside0.mk hA
        have hb1 : Below W.heap.size W (W.alloc (tmO (q x) (kidF t x))) := below_alloc (Below.refl _ _) _
        have HKK := Aside0.mk (hK { tmps := #[tmV p t, .int .i64 d, .int .i64 b, vfMa g1 g2 g3, .pointer (some ⟨w.heap.size, 0, none⟩), .pointer (some ⟨w.heap.size + 1, 0, none⟩), .pointer (some ⟨w.heap.size + 1 + 1, 0, none⟩), .pointer (some ⟨w.heap.size + 1 + 1 + 1, 0, none⟩), .pointer (some ⟨w.heap.size + 1 + 1 + 1 + 1, 0, none⟩), .int .i64 (moreZ t x), .pointer (some ⟨W.heap.size, 0, none⟩), vfMa g1 g2 g3, tmV p t, .int .i64 d, .int .i64 b, .bool true, .bool false, tmV p t, .func (.func 99) #[] #[.pointer (some ⟨w1.heap.size, 0, none⟩)], .int .i64 (moreZ t x), tmV (q x) (kidF t x), undef, undef, undef, undef, undef, undef, undef, undef, undef], defers := [] } _ (KeepsFrom.of_chg (Chg.of_below (S := fun _ => False) hb1) (fun k h => h.elim)) ⟨hb1.size, fun k hk _ => hb1.block k (by have := hCW.size; omega)⟩ ⟨hA, HRP.out _ _ _ hRW (fun k hk => hb1.block k (by have := HGL.out k hk; have := hCW.size; omega)), chg_trans hCW (Chg.of_below hb1)⟩ ⟨W.heap.size, hCW.size, blk_new _ _, rfl⟩)
        clear hK hA hAA hb1
        gi_wp2
        exact HKK.out
      case body =>
        rintro l pre x a' W hl ⟨r, hr⟩ ⟨⟨hA, hIv⟩, hRW, hCW⟩ ⟨Bx, hBx, bX, rfl⟩ hlt
        obtain ⟨sp, hsp⟩ : ∃ sp, runL (fun (i : Fin (nK t)) s => foldP F (kidF t i) (d + 1) (b + moreZ t i) s) pre s1 = (true, sp) := ⟨_, Prod.ext hA rfl⟩
        rw [hsp] at hIv hRW
        have HSP := Aside0.mk hsp
        obtain ⟨ev, s2, hev⟩ : ∃ ev s2, foldP F (kidF t x) (d + 1) (b + moreZ t x) sp = (ev, s2) := ⟨_, _, rfl⟩
        have HEV := Aside0.mk hev
        have HSN := Aside0.mk (show runL (fun (i : Fin (nK t)) s => foldP F (kidF t i) (d + 1) (b + moreZ t i) s) (pre ++ [x]) s1 = (ev, s2) by rw [runL_snoc, hsp]; exact hev)
        have HIV2 := Aside0.mk (show ev = true → Inv s2 from fun h => by have := HINV.out _ (kidF t x) (Nat.lt_succ_self _) (d + 1) (b + moreZ t x) sp (HPK.out x) hIv (by rw [hev]; exact h); rwa [hev] at this)
        have HIV := Aside0.mk hIv
        have HRW := Aside0.mk hRW
        have HCW := Aside0.mk hCW
        have HKD := Aside0.mk ((HQ.out x _ (kidF_get t x)).2.same (w' := W) fun k hk hz => hCW.block k hz (fun h => by have := (HG.out k h).1; omega))
        have hszW := hCW.size
        have st : ∀ j, w.heap.size ≤ j → j < w1.heap.size → W.heap[j]? = w1.heap[j]? := fun j h1 h2 => (hCW.block j (by omega) (HGN.out j h1)).trans (HB2.out.block j h2)
        have c1 : W.cell? ⟨w.heap.size + 1, 0, none⟩ = some (.int .i64 d) := by rw [cell_of_row _ _ _ _ _ _ ((st _ (by omega) (by omega)).trans HX11.out)]; rfl
        have c2 : W.cell? ⟨w.heap.size + 1 + 1, 0, none⟩ = some (.int .i64 b) := by rw [cell_of_row _ _ _ _ _ _ ((st _ (by omega) (by omega)).trans HX21.out)]; rfl
        have c3 : W.cell? ⟨w.heap.size + 1 + 1 + 1, 0, none⟩ = some (vfMa g1 g2 g3) := by rw [cell_of_row _ _ _ _ _ _ ((st _ (by omega) (by omega)).trans HX31.out)]; rfl
        have X4 := Aside0.mk ((st _ (by omega) (by omega)).trans HX41.out)
        obtain ⟨b0, b1, b2, b3, b4, b5, b6, b7⟩ := row8 bX
        obtain ⟨hd0, hd1⟩ := hd
        have hmz := moreZ_in t x
        obtain ⟨hm0, hm1⟩ := hmz
        have HMZ := Aside0.mk (show b + moreZ t x ≤ d + 1 by omega)
        clear hA hIv hRW hCW hsp hev st bX hr hlt
        cases ev with
        | true =>
          gi_wp2
          refine ⟨trivial, ?_⟩
          gi_at_call 61
          refine (CallsIn.inRound l (callsIn_wide.2 (IH.out (kidF t x) (by have := kidF_lt t x; have := HNN.out; omega) (q x) (d + 1) (b + moreZ t x) sp W (HPK.out x) (by omega) HMZ.out HIV.out (by omega) HKD.out HRW.out))).mono ?_
          rintro e w3 ⟨rfl, hR3, hC3⟩
          rw [HEV.out] at hR3 ⊢
          have HR3 := Aside0.mk hR3
          have HC3 := Aside0.mk hC3
          clear hR3 hC3
          gi_wp2
          refine ⟨KeepsFrom.of_chg HC3.out HGL.out, ⟨HC3.out.size, fun k hk hg => HC3.out.block k (by omega) hg⟩, ⟨?_, ?_⟩, ?_, chg_trans HCW.out HC3.out⟩
          · rw [HSN.out]
          · rw [HSN.out]; exact HIV2.out (by simp)
          · rw [HSN.out]; exact HR3.out
        | false =>
          gi_wp2
          refine ⟨trivial, ?_⟩
          gi_at_call 61
          refine (CallsIn.inRound l (callsIn_wide.2 (IH.out (kidF t x) (by have := kidF_lt t x; have := HNN.out; omega) (q x) (d + 1) (b + moreZ t x) sp W (HPK.out x) (by omega) HMZ.out HIV.out (by omega) HKD.out HRW.out))).mono ?_
          rintro e w3 ⟨rfl, hR3, hC3⟩
          rw [HEV.out] at hR3 ⊢
          have HR3 := Aside0.mk hR3
          have HC3 := Aside0.mk hC3
          have hx4 := (hC3.block _ (by omega) (HGN.out _ (by omega))).trans X4.out
          have X43 := Aside0.mk hx4
          have c4 : w3.cell? ⟨w.heap.size + 1 + 1 + 1 + 1, 0, none⟩ = some (.bool false) := by (rw [cell_of_row _ _ _ _ _ _ hx4]; rfl)
          have f4 := blk_frozen hx4 0
          clear hR3 hC3 hx4
          gi_wp2
          have hch := chg_set w3 (w.heap.size + 1 + 1 + 1 + 1) 0 (.bool false)
          have hsz3 := HC3.out.size
          refine ⟨KeepsFrom.of_chg (S := fun k => G k ∨ k = w.heap.size + 1 + 1 + 1 + 1) (chg_trans (HC3.out.mono fun k h => .inl h) (hch.mono fun k h => .inr h)) (fun k h => h.elim (fun h => HGL.out k h) (fun h => by omega)), ⟨rfl, ?_⟩, ⟨?_, ?_⟩, ?_⟩
          · rw [HSN.out]
          · rw [HSN.out]; exact HRP.out _ _ _ HR3.out fun k hk => hch.block k (by have := HGL.out k hk; omega) (fun e => HGN.out k (by have e : k = _ := e; omega) hk)
          · exact blk_put X43.out 0 _ rfl
          · exact chg_trans (HCW.out.mono fun k h => .inl h) (chg_trans (HC3.out.mono fun k h => .inl h) (hch.mono fun k h => .inr h))
      case done =>
        rintro D ys W hD rfl ⟨⟨hA, hIv⟩, hRW, hCW⟩ hK
        obtain ⟨sp, hsp⟩ : ∃ sp, runL (fun (i : Fin (nK t)) s => foldP F (kidF t i) (d + 1) (b + moreZ t i) s) (List.finRange (nK t)) s1 = (true, sp) := ⟨_, Prod.ext hA rfl⟩
        rw [hsp] at hRW
        have HRES := Aside0.mk hsp
        have hszW := hCW.size
        have hx4 := (hCW.block _ (by omega) (HGN.out _ (by omega))).trans ((HB2.out.block _ (by omega)).trans HX41.out)
        have X4 := Aside0.mk hx4
        have HRW := Aside0.mk hRW
        have HCW := Aside0.mk hCW
        have HKD := Aside0.mk hK
        have c4 : W.cell? ⟨w.heap.size + 1 + 1 + 1 + 1, 0, none⟩ = some (.bool false) := by (rw [cell_of_row _ _ _ _ _ _ hx4]; rfl)
        have f4 := blk_frozen hx4 0
        clear hA hIv hsp hRW hCW hx4 hK
        gi_wp2
        have hch := chg_set W (w.heap.size + 1 + 1 + 1 + 1) 0 (.bool true)
        obtain ⟨WW, hWW⟩ : ∃ WW, WW = W.setCell ⟨w.heap.size + 1 + 1 + 1 + 1, 0, none⟩ (.bool true) := ⟨_, rfl⟩
        have hx5 : WW.heap[w.heap.size + 1 + 1 + 1 + 1]? = some (.cells #[.bool true] 4 (0, 0)) := by rw [hWW]; exact blk_put X4.out 0 _ rfl
        rw [← hWW] at hch ⊢
        clear hWW
        have hszV := hch.size
        have hKW : WW.heap[D]? = some (.deferred (some [])) := (hch.block D (blk_lt HKD.out) (by omega)).trans HKD.out
        have hRWW : Rep sp WW := HRP.out _ _ _ HRW.out fun k hk => hch.block k (by have := HGL.out k hk; omega) (fun e => HGN.out k (by have e : k = _ := e; omega) hk)
        have hCWW : Chg (fun k => G k ∨ w.heap.size ≤ k) w2 WW := chg_trans (HCW.out.mono fun k h => .inl h) (hch.mono fun k h => .inr (by have h : k = _ := h; omega))
        have hgD : ∀ k, G k → k ≠ D := fun k hk e => by have := HGL.out k hk; omega
        have hp := chg_put WW D (.deferred none)
        have hc5 : (WW.putObj D (.deferred none)).cell? ⟨w.heap.size + 1 + 1 + 1 + 1, 0, none⟩ = some (.bool true) := by
          rw [cell_of_row _ _ _ _ _ _ ((hp.block _ (blk_lt hx5) (by omega)).trans hx5)]; rfl
        refine ⟨by simp, .inl ⟨_, _, rfl, run_takeDeferred hKW, ?_⟩⟩
        refine ⟨.bool true, ?_, ?_⟩
        · simp [results, Try.f61, go_sem, hc5]
        · rw [HE.out, HRES.out]
          refine ⟨rfl, HRP.out _ _ _ hRWW (fun k hk => hp.block k (by have := HGL.out k hk; omega) (hgD k hk)), ?_⟩
          refine chg_cut (Chg.of_below HB0.out) (HC1.out.mono fun k h => .inl h) (chg_trans (chg_trans (Chg.of_below HB2.out) hCWW) (hp.mono fun k h => .inr (by have h : k = D := h; omega)))
      case stop =>
        rintro D c pre WW hD hSp ⟨⟨rfl, hA⟩, ⟨hRWW, hx5⟩, hCW⟩ hKW
        obtain ⟨sp, hsp⟩ : ∃ sp, runL (fun (i : Fin (nK t)) s => foldP F (kidF t i) (d + 1) (b + moreZ t i) s) pre s1 = (false, sp) := ⟨_, Prod.ext hA rfl⟩
        have HRES := Aside0.mk (show runL (fun (i : Fin (nK t)) s => foldP F (kidF t i) (d + 1) (b + moreZ t i) s) (List.finRange (nK t)) s1 = (false, sp) by rw [runL_false _ hSp _ hA, hsp])
        rw [hsp] at hRWW
        have hszV := hCW.size
        have hCWW : Chg (fun k => G k ∨ w.heap.size ≤ k) w2 WW := hCW.mono fun k h => h.elim .inl fun h => .inr (by omega)
        clear hA hsp hSp hCW
        gi_wp2
        have hgD : ∀ k, G k → k ≠ D := fun k hk e => by have := HGL.out k hk; omega
        have hp := chg_put WW D (.deferred none)
        have hc5 : (WW.putObj D (.deferred none)).cell? ⟨w.heap.size + 1 + 1 + 1 + 1, 0, none⟩ = some (.bool false) := by
          rw [cell_of_row _ _ _ _ _ _ ((hp.block _ (blk_lt hx5) (by omega)).trans hx5)]; rfl
        refine ⟨by simp, .inl ⟨_, _, rfl, run_takeDeferred hKW, ?_⟩⟩
        refine ⟨.bool false, ?_, ?_⟩
        · simp [results, Try.f61, go_sem, hc5]
        · rw [HE.out, HRES.out]
          refine ⟨rfl, HRP.out _ _ _ hRWW (fun k hk => hp.block k (by have := HGL.out k hk; omega) (hgD k hk)), ?_⟩
          refine chg_cut (Chg.of_below HB0.out) (HC1.out.mono fun k h => .inl h) (chg_trans (chg_trans (Chg.of_below HB2.out) hCWW) (hp.mono fun k h => .inr (by have h : k = D := h; omega)))
end Go.Proofs.Ytcgkeolgflphiaa

/-! May -/
namespace Go.Proofs.Ytcgkeolgflphiaa
open Go.RowKit Go.Proofs.YtcgkeolgflphiaaW.PrintWords Go.RegionInvYtcgkeolgflphiaa

def mayF (v : Int) (l : Lv) (d s : Int) : Int × Int :=
  if 32 < d ∨ 100 < s + 1 then (2, s + 1) else if l.kind = 2 ∧ l.kids = [] then (if l.num < 0 ∨ v ≤ l.num then (10, s + 1) else (0, s + 1)) else if rightP l 1048576 0 = false then (1, s + 1) else (0, s + 1)
theorem mayF_long {v : Int} {l : Lv} {d s : Int} (h : 32 < d ∨ 100 < s + 1) : mayF v l d s = (2, s + 1) := if_pos h
theorem mayF_var {v : Int} {l : Lv} {d s : Int} (h : ¬ (32 < d ∨ 100 < s + 1)) (h2 : l.kind = 2 ∧ l.kids = []) : mayF v l d s = (if l.num < 0 ∨ v ≤ l.num then (10, s + 1) else (0, s + 1)) := (if_neg h).trans (if_pos h2)
theorem mayF_rest {v : Int} {l : Lv} {d s : Int} (h : ¬ (32 < d ∨ 100 < s + 1)) (h2 : ¬ (l.kind = 2 ∧ l.kids = [])) : mayF v l d s = (if rightP l 1048576 0 = false then (1, s + 1) else (0, s + 1)) := (if_neg h).trans (if_neg h2)
theorem mayF_small' {v : Int} {l : Lv} {d s : Int} (_hs : 0 ≤ s) (h : (mayF v l d s).1 = 0) : s + 1 ≤ 100 ∧ d ≤ 32 ∧ True ∧ mayF v l d s = (0, s + 1) := by
  by_cases h1 : 32 < d ∨ 100 < s + 1
  · rw [mayF_long h1] at h; simp at h
  · refine ⟨by omega, by omega, trivial, ?_⟩
    by_cases h2 : l.kind = 2 ∧ l.kids = []
    · rw [mayF_var h1 h2] at h ⊢
      split at h
      · simp at h
      · rename_i h3; rw [if_neg h3]
    · rw [mayF_rest h1 h2] at h ⊢
      split at h
      · simp at h
      · rename_i h3; rw [if_neg h3]
theorem mayF_small (v : Int) : Small (mayF v) 100 := fun l d s h0 h => by
  have := mayF_small' h0 h
  rw [this.2.2.2]
  exact ⟨by show 0 ≤ s + 1; omega, this.1⟩
theorem NumAt.chg {w w' : World} {g gv : Nat} {s : Int} (h : NumAt w gv s) (hc : Chg (fun k => k = g) w w') (hne : g ≠ gv) : NumAt w' gv s := (hc.block gv (blk_lt h) (fun e => hne e.symm)).trans h
theorem right_at (A : Option Addr) (c : Nat) (l : Lv) (most mostV : Int) (m : Nat) (hm : m = l.kids.length) (hc : l.kids.length ≤ 9223372036854775807) (w : World) :
    Calls Try.prog 102 #[.agg #[.int .i64 l.kind, .int .i64 l.num, .slice A m c], .int .i64 most, .int .i64 mostV] w fun e w' => e = .returned (.bool (rightP l most mostV)) ∧ Below w.heap.size w w' := by
  subst hm
  exact right_calls A c l most mostV w hc
abbrev mayFn (g gv : Nat) : Value := .func (.func 101) #[] #[.pointer (some ⟨g, 0, none⟩), .pointer (some ⟨gv, 0, none⟩)]
set_option maxHeartbeats 4000000 in
theorem may1_calls (A : Option Addr) (c : Nat) (l : Lv) (d s v : Int) (g gv : Nat) (w : World) (hc : l.kids.length ≤ 9223372036854775807) (hg : NumAt w g s) (hgv : NumAt w gv v) (hne : g ≠ gv) (hs0 : 0 ≤ s) (hs1 : s ≤ 100) (hd0 : 0 ≤ d) (hd1 : d ≤ 33) :
    Calls Try.prog 101 #[lvV A c l, .int .i64 d, .pointer (some ⟨g, 0, none⟩), .pointer (some ⟨gv, 0, none⟩)] w (VisitPost w g (mayF v l d s)) := by
  have HG := Aside0.mk hg
  have hcell := hg.cell
  have hfz := blk_frozen hg 0
  have hc2 := (hg.alloc (.cells #[.int .i64 l.kind, .int .i64 l.num, .slice A l.kids.length c] 24 (0, 0))).cell
  have HC := Aside0.mk hc
  have hglt := blk_lt hg
  have hgvlt := blk_lt hgv
  have hgne : g ≠ w.heap.size := Nat.ne_of_lt hglt
  have hgvne : gv ≠ w.heap.size := Nat.ne_of_lt hgvlt
  have hcv := ((hgv.chg (chg_set w g 0 (.int .i64 (s + 1))) hne).alloc (.cells #[.int .i64 l.kind, .int .i64 l.num, .slice A l.kids.length c] 24 (0, 0))).cell
  have hcv0 := hgv.cell
  have hne' : gv ≠ g := fun e => hne e.symm
  obtain ⟨m, hm⟩ : ∃ m, m = l.kids.length := ⟨_, rfl⟩
  have HM := Aside0.mk hm
  clear hg hgv hc
  unfold lvV
  go_enter Try.func101, Try.ntmps101
  have hfin : NumAt ((w.setCell ⟨g, 0, none⟩ (.int .i64 (s + 1))).alloc (.cells #[.int .i64 l.kind, .int .i64 l.num, .slice A l.kids.length c] 24 (0, 0))) g (s + 1) := (HG.out.set _).alloc _
  have hch : Chg (fun k => k = g) w ((w.setCell ⟨g, 0, none⟩ (.int .i64 (s + 1))).alloc (.cells #[.int .i64 l.kind, .int .i64 l.num, .slice A l.kids.length c] 24 (0, 0))) := chg_trans (chg_set _ _ _ _) (chg_alloc _ _ _)
  have HF := Aside0.mk (And.intro hfin hch)
  rw [← hm] at hc2 hcv HF ⊢
  clear hfin hch hm
  by_cases h1 : 32 < d
  · have HE := Aside0.mk (mayF_long (v := v) (l := l) (s := s) (.inl h1))
    go_wp2
    go_ret
    rw [HE.out]
    exact ⟨rfl, HF.out.1, HF.out.2⟩
  · by_cases h2 : 100 < s + 1
    · have HE := Aside0.mk (mayF_long (v := v) (l := l) (d := d) (.inr h2))
      go_wp2
      go_ret
      rw [HE.out]
      exact ⟨rfl, HF.out.1, HF.out.2⟩
    · by_cases hk : l.kind = 2
      · have hk' : (l.kind == 2) = true := by simp [hk]
        by_cases hm0 : m = 0
        · have hkids : l.kids = [] := List.eq_nil_of_length_eq_zero (by rw [← HM.out]; exact hm0)
          have HE := Aside0.mk (mayF_var (v := v) (d := d) (s := s) (by omega) ⟨hk, hkids⟩)
          have hm0' : ((m : Int) == 0) = true := by simp [hm0]
          clear hkids hk hm0
          by_cases hn0 : l.num < 0
          · have HR := Aside0.mk (HE.out.trans (if_pos (.inl hn0)))
            go_wp2
            go_ret
            rw [HR.out]
            exact ⟨rfl, HF.out.1, HF.out.2⟩
          · by_cases hnv : v ≤ l.num
            · have HR := Aside0.mk (HE.out.trans (if_pos (.inr hnv)))
              go_wp2
              go_ret
              rw [HR.out]
              exact ⟨rfl, HF.out.1, HF.out.2⟩
            · have HR := Aside0.mk (HE.out.trans (if_neg (by omega)))
              go_wp2
              go_ret
              rw [HR.out]
              exact ⟨rfl, HF.out.1, HF.out.2⟩
        · have hm0' : ((m : Int) == 0) = false := by simp; omega
          have HE := Aside0.mk (mayF_rest (v := v) (d := d) (s := s) (by omega) (l := l) (fun h => hm0 (by rw [HM.out, h.2]; rfl)))
          clear hk
          cases hR : rightP l 1048576 0 with
          | false =>
            have HR := Aside0.mk hR
            have HE2 := Aside0.mk (HE.out.trans (if_pos hR))
            clear hR
            go_wp2_with (go_at_call 102; go_must (refine (right_at A c l 1048576 0 m HM.out HC.out _).mono ?_; rintro e w1 ⟨rfl, hb⟩; rw [HR.out]; have HB := Aside0.mk hb; clear hb))
            go_ret
            rw [HE2.out]
            exact ⟨rfl, HF.out.1.below HB.out, chg_trans HF.out.2 (Chg.of_below HB.out)⟩
          | true =>
            have HR := Aside0.mk hR
            have HE2 := Aside0.mk (HE.out.trans (if_neg (by rw [hR]; decide)))
            clear hR
            go_wp2_with (go_at_call 102; go_must (refine (right_at A c l 1048576 0 m HM.out HC.out _).mono ?_; rintro e w1 ⟨rfl, hb⟩; rw [HR.out]; have HB := Aside0.mk hb; clear hb))
            go_ret
            rw [HE2.out]
            exact ⟨rfl, HF.out.1.below HB.out, chg_trans HF.out.2 (Chg.of_below HB.out)⟩
      · have hk' : (l.kind == 2) = false := by simp [hk]
        have HE := Aside0.mk (mayF_rest (v := v) (d := d) (s := s) (by omega) (l := l) (fun h => hk h.1))
        clear hk
        cases hR : rightP l 1048576 0 with
        | false =>
          have HR := Aside0.mk hR
          have HE2 := Aside0.mk (HE.out.trans (if_pos hR))
          clear hR
          go_wp2_with (go_at_call 102; go_must (refine (right_at A c l 1048576 0 m HM.out HC.out _).mono ?_; rintro e w1 ⟨rfl, hb⟩; rw [HR.out]; have HB := Aside0.mk hb; clear hb))
          go_ret
          rw [HE2.out]
          exact ⟨rfl, HF.out.1.below HB.out, chg_trans HF.out.2 (Chg.of_below HB.out)⟩
        | true =>
          have HR := Aside0.mk hR
          have HE2 := Aside0.mk (HE.out.trans (if_neg (by rw [hR]; decide)))
          clear hR
          go_wp2_with (go_at_call 102; go_must (refine (right_at A c l 1048576 0 m HM.out HC.out _).mono ?_; rintro e w1 ⟨rfl, hb⟩; rw [HR.out]; have HB := Aside0.mk hb; clear hb))
          go_ret
          rw [HE2.out]
          exact ⟨rfl, HF.out.1.below HB.out, chg_trans HF.out.2 (Chg.of_below HB.out)⟩
theorem may1_at (A : Option Addr) (c : Nat) (k n : Int) (ks : List Lv) (m : Nat) (d s v : Int) (g gv : Nat) (w : World) (hm : m = ks.length) (hc : m ≤ 9223372036854775807) (hg : NumAt w g s) (hgv : NumAt w gv v) (hne : g ≠ gv) (hs0 : 0 ≤ s) (hs1 : s ≤ 100) (hd0 : 0 ≤ d) (hd1 : d ≤ 33) :
    Calls Try.prog 101 #[.agg #[.int .i64 k, .int .i64 n, .slice A m c], .int .i64 d, .pointer (some ⟨g, 0, none⟩), .pointer (some ⟨gv, 0, none⟩)] w (VisitPost w g (mayF v (.mk k n ks) d s)) := by
  subst hm
  exact may1_calls A c (.mk k n ks) d s v g gv w hc hg hgv hne hs0 hs1 hd0 hd1
set_option maxHeartbeats 4000000 in
theorem walk_may (v : Int) (gv : Nat) (N : Nat) : ∀ (l : Lv), SizeOf.sizeOf l < N → ∀ (A : Option Addr) (c : Nat) (d s : Int) (g B : Nat) (w : World), LvIn w B A c l → NumAt w g s → NumAt w gv v → g ≠ gv → B ≤ g → 0 ≤ s → s ≤ 100 → 0 ≤ d → d ≤ 33 →
    Calls Try.prog 100 #[lvV A c l, .int .i64 d, mayFn g gv] w (VisitPost w g (walkP (mayF v) l d s)) := by
  induction N with
  | zero => intro l h; omega
  | succ N ih =>
    rintro ⟨lk, ln, ks⟩ hN A c d s g B w hin hg hgv hne hBg hs0 hs1 hd0 hd1
    have IH := Aside0.mk ih
    have HIN := Aside0.mk hin
    have HG := Aside0.mk hg
    have HGV := Aside0.mk hgv
    have hlen := hin.len
    simp only [Lv.kids] at hlen
    have hl9 : ks.length ≤ 9223372036854775807 := by omega
    have hglt := blk_lt hg
    clear ih hin hg hgv hlen
    unfold mayFn lvV
    simp only [Lv.kind, Lv.num, Lv.kids]
    obtain ⟨m, hm⟩ : ∃ m, m = ks.length := ⟨_, rfl⟩
    rw [← hm] at hl9 ⊢
    have HM := Aside0.mk hm
    clear hm
    go_enter Try.func100, Try.ntmps100
    by_cases h1 : ((mayF v) (.mk lk ln ks) d s).1 = 0
    · have HE := Aside0.mk (walkP_go h1)
      have hsm := mayF_small' hs0 h1
      have HV := Aside0.mk hsm.2.2.2
      rw [HV.out] at HE
      simp only [Lv.kids] at HE
      have hs3 := hsm.1
      have hd3 := hsm.2.1
      clear h1 hsm
      go_wp2_with (go_at_call 101; go_must (refine (may1_at A c lk ln ks m d s v g gv _ HM.out hl9 (HG.out.alloc _) (HGV.out.alloc _) hne hs0 hs1 hd0 hd1).mono ?_; rintro e w1 ⟨rfl, hg1, hc1⟩; rw [HV.out] at hg1 ⊢; have HG1 := Aside0.mk hg1; have hbox := chg_cell hc1 (box_cell w #[.int .i64 lk, .int .i64 ln, .slice A m c] 24 2 _ rfl) (Nat.ne_of_gt hglt); have HC1 := Aside0.mk (chg_trans (chg_alloc _ _ _) hc1); clear hg1 hc1))
      go_loopw [21] (fun i wr => ∃ (k : Nat) (s' : Int), i = .int .i64 k ∧ k ≤ m ∧ 0 ≤ s' ∧ s' ≤ 100 ∧ Aside0 (walkKs (mayF v) (ks.drop k) (d + 1) s' = walkP (mayF v) (.mk lk ln ks) d s) ∧ Aside0 (NumAt wr g s') ∧ Aside0 (Chg (fun k => k = g) w wr)) (fun i _ => m - (intOf i).toNat)
      case atStart => exact ⟨0, s + 1, rfl, Nat.zero_le _, by omega, by omega, ⟨HE.out.symm⟩, HG1, HC1⟩
      case round =>
        clear HE HV HG1 HC1 hbox
        obtain ⟨k, s', rfl, hk, hs4, hs5, HE, HG1, HC1⟩ := hrel
        have HIN2 := Aside0.mk (LvIn.stay HIN.out (chg_below HC1.out hBg (Nat.le_of_lt (Nat.lt_of_le_of_lt hBg hglt))))
        by_cases hlt : k < m
        · have hlt2 : k < ks.length := by rw [← HM.out]; exact hlt
          obtain ⟨x, hx⟩ : ∃ x, ks[k]? = some x := ⟨_, List.getElem?_eq_getElem hlt2⟩
          obtain ⟨A', c', hcs, hin⟩ := HIN2.out.kid k x hx
          obtain ⟨ad, rfl, hc1, hc2, hc3⟩ := hcs.facts
          clear hcs
          have HX := Aside0.mk hx
          have HXIN := Aside0.mk hin
          clear hx hin hlt2
          have hglt2 := blk_lt HG1.out
          by_cases h2 : (walkP (mayF v) x (d + 1) s').1 = 0
          · have hsm := walkP_small (mayF_small v) x (d + 1) s' hs4 h2
            have HK := Aside0.mk ((walkKs_go (r := ks.drop (k + 1)) h2).symm.trans ((congrArg (fun l => walkKs (mayF v) l (d + 1) s') (drop_kid HX.out)).symm.trans HE.out))
            obtain ⟨e2, s2, hes⟩ : ∃ a b, walkP (mayF v) x (d + 1) s' = (a, b) := ⟨_, _, rfl⟩
            have HV := Aside0.mk hes
            rw [hes] at hsm h2 HK
            simp only at hsm h2 HK
            subst h2
            have hs6 := hsm.1
            have hs7 := hsm.2
            clear hes hsm
            go_wp2_with (go_at_call 100; go_must (refine (IH.out x (Nat.lt_of_lt_of_le (kid_small HX.out) (Nat.le_of_lt_succ hN)) A' c' (d + 1) s' g B _ (LvIn.stay HXIN.out ((Below.refl _ _).alloc (Nat.le_of_lt (Nat.lt_of_le_of_lt hBg hglt2)) _)) (HG1.out.alloc _) ((HGV.out.chg HC1.out hne).alloc _) hne hBg hs4 hs5 (by omega) (by omega)).mono ?_; rintro e w2 ⟨rfl, hg1, hc1⟩; rw [HV.out] at hg1 ⊢; have HG2 := Aside0.mk hg1; have HC2 := Aside0.mk (chg_trans HC1.out (chg_trans (chg_alloc _ _ _) hc1)); clear hg1 hc1))
            go_roundw
            case rel => exact ⟨k + 1, s2, by go_num, by omega, hs6, hs7, HK, HG2, HC2⟩
            case measure => (simp [intOf]; try omega)
          · have HK := Aside0.mk ((walkKs_stop (r := ks.drop (k + 1)) h2).symm.trans ((congrArg (fun l => walkKs (mayF v) l (d + 1) s') (drop_kid HX.out)).symm.trans HE.out))
            obtain ⟨e2, s2, hes⟩ : ∃ a b, walkP (mayF v) x (d + 1) s' = (a, b) := ⟨_, _, rfl⟩
            have HV := Aside0.mk hes
            rw [hes] at h2
            have h2' : (e2 != 0) = true := by simpa using h2
            clear hes h2
            go_wp2_with (go_at_call 100; go_must (refine (IH.out x (Nat.lt_of_lt_of_le (kid_small HX.out) (Nat.le_of_lt_succ hN)) A' c' (d + 1) s' g B _ (LvIn.stay HXIN.out ((Below.refl _ _).alloc (Nat.le_of_lt (Nat.lt_of_le_of_lt hBg hglt2)) _)) (HG1.out.alloc _) ((HGV.out.chg HC1.out hne).alloc _) hne hBg hs4 hs5 (by omega) (by omega)).mono ?_; rintro e w2 ⟨rfl, hg1, hc1⟩; rw [HV.out] at hg1 ⊢; have HG2 := Aside0.mk hg1; have HC2 := Aside0.mk (chg_trans HC1.out (chg_trans (chg_alloc _ _ _) hc1)); clear hg1 hc1))
            go_ret
            rw [← HK.out, HV.out]
            exact ⟨rfl, HG2.out, HC2.out⟩
        · obtain rfl : k = m := by omega
          have hlt' : decide ((k : Int) < k) = false := by simp
          have HW := Aside0.mk (show walkP (mayF v) (.mk lk ln ks) d s = (0, s') by rw [← HE.out, List.drop_of_length_le (by rw [← HM.out]; exact Nat.le_refl _), walkKs])
          go_wp2
          go_ret
          rw [HW.out]
          exact ⟨rfl, HG1.out, HC1.out⟩
    · have HE := Aside0.mk (walkP_stop h1)
      have h1' : (((mayF v) (.mk lk ln ks) d s).1 != 0) = true := by simp [h1]
      obtain ⟨e1, s1, hes⟩ : ∃ a b, (mayF v) (.mk lk ln ks) d s = (a, b) := ⟨_, _, rfl⟩
      have HV := Aside0.mk hes
      rw [hes] at h1'
      simp only at h1'
      clear h1 hes
      go_wp2_with (go_at_call 101; go_must (refine (may1_at A c lk ln ks m d s v g gv _ HM.out hl9 (HG.out.alloc _) (HGV.out.alloc _) hne hs0 hs1 hd0 hd1).mono ?_; rintro e w1 ⟨rfl, hg1, hc1⟩; rw [HV.out] at hg1 ⊢; have HG1 := Aside0.mk hg1; have HC1 := Aside0.mk (chg_trans (chg_alloc _ _ _) hc1); clear hg1 hc1))
      go_ret
      rw [HE.out, HV.out]
      exact ⟨rfl, HG1.out, HC1.out⟩
end Go.Proofs.Ytcgkeolgflphiaa

/-! LvO -/
namespace Go.Proofs.Ytcgkeolgflphiaa
open Go.RowKit Go.Proofs.YtcgkeolgflphiaaW.PrintWords Go.RegionInvYtcgkeolgflphiaa

/-- What own gives. -/
def owP (l : Lv) : Lv := if soundB l = true then cpP l else l
theorem owP_sound {l : Lv} (h : soundB l = true) : owP l = cpP l := if_pos h
theorem owP_not {l : Lv} (h : soundB l = false) : owP l = l := if_neg (by simp [h])
/-- A level that a call gives. -/
def LvGot (w : World) (S : Nat → Prop) (l : Lv) (e : Ending) (w' : World) : Prop := ∃ A c, e = .returned (lvV A c l) ∧ LvS w' (fun b => S b ∨ w.heap.size ≤ b) A c l ∧ Below w.heap.size w w'
theorem two_boxes {w : World} (o o' : Obj) : Below w.heap.size w ((w.alloc o).alloc o') := below_alloc (below_alloc (Below.refl _ _) _) _

theorem row3 {w : World} {g : Nat} {a b c : Value} {t : TypeId} (h : w.heap[g]? = some (.cells #[a, b, c] t (0, 0))) :
    w.cell? ⟨g, 0, none⟩ = some a ∧ w.cell? ⟨g, 1, none⟩ = some b ∧ w.cell? ⟨g, 2, none⟩ = some c ∧ w.frozen? ⟨g, 0, none⟩ = false ∧ w.frozen? ⟨g, 1, none⟩ = false ∧ w.frozen? ⟨g, 2, none⟩ = false := by
  refine ⟨?_, ?_, ?_, blk_frozen h 0, blk_frozen h 1, blk_frozen h 2⟩ <;> (rw [cell_of_row _ _ _ _ _ _ h]; rfl)
theorem box0 (w : World) (o o' : Obj) : ((w.alloc o).alloc o').heap[w.heap.size]? = some o := blk_alloc (blk_new w o) o'
theorem box1 (w : World) (o o' : Obj) : ((w.alloc o).alloc o').heap[w.heap.size + 1]? = some o' := by
  have := blk_new (w.alloc o) o'
  simpa using this

theorem LvS.leaf (w : World) (S : Nat → Prop) (k n : Int) : LvS w S none 0 (.mk k n []) := .mk (fun _ => none) (fun _ => 0) (by simp) (by omega) (fun i x h => by simp at h) (fun i x h => by simp at h)
def plP (n : Int) (l : Lv) : Lv := if n < 1 then owP l else if l.kind = 3 then .mk (owP l).kind (min 1099511627776 (min 1099511627776 n + min 1099511627776 l.num)) (owP l).kids else .mk 3 n [owP l]
theorem plP_own {n : Int} {l : Lv} (h : n < 1) : plP n l = owP l := if_pos h
theorem plP_succ {n : Int} {l : Lv} (h : ¬ n < 1) (h3 : l.kind = 3) : plP n l = .mk (owP l).kind (min 1099511627776 (min 1099511627776 n + min 1099511627776 l.num)) (owP l).kids := (if_neg h).trans (if_pos h3)
theorem plP_new {n : Int} {l : Lv} (h : ¬ n < 1) (h3 : ¬ l.kind = 3) : plP n l = .mk 3 n [owP l] := (if_neg h).trans (if_neg h3)
theorem got_two {w w2 : World} {S : Nat → Prop} {o o' : Obj} {A : Option Addr} {c : Nat} {l : Lv} (h : LvS w2 (fun b => (S b ∧ b < w.heap.size) ∨ ((w.alloc o).alloc o').heap.size ≤ b) A c l) : LvS w2 (fun b => (S b ∧ b < w.heap.size) ∨ w.heap.size + 2 ≤ b) A c l :=
  h.mono fun b hb _ => hb.elim .inl fun h => .inr (by simp at h; omega)
theorem got_all {w w2 : World} {S : Nat → Prop} {A : Option Addr} {c : Nat} {l : Lv} (h : LvS w2 (fun b => (S b ∧ b < w.heap.size) ∨ w.heap.size + 2 ≤ b) A c l) : LvS w2 (fun b => S b ∨ w.heap.size ≤ b) A c l :=
  h.mono fun b hb _ => hb.elim (fun h => .inl h.1) fun h => .inr (by omega)
theorem got_chg {w w2 w3 : World} {S : Nat → Prop} {A : Option Addr} {c : Nat} {l : Lv} (h : LvS w2 (fun b => (S b ∧ b < w.heap.size) ∨ w.heap.size + 2 ≤ b) A c l) (hc : Chg (fun k => k = w.heap.size + 1) w2 w3) : LvS w3 (fun b => (S b ∧ b < w.heap.size) ∨ w.heap.size + 2 ≤ b) A c l :=
  h.same fun b hb hz => hc.block b hz (by omega)
theorem LvS.renum {w : World} {S : Nat → Prop} {A : Option Addr} {c : Nat} {l : Lv} (h : LvS w S A c l) (k n : Int) : LvS w S A c (.mk k n l.kids) := by
  cases h with
  | mk fA fc hc hm hcell hk => exact .mk fA fc hc hm hcell hk
theorem LvS.one {w : World} {S : Nat → Prop} {g : Nat} {A : Option Addr} {c : Nat} {x : Lv} {t : TypeId} (h : w.heap[g]? = some (.cells #[.int .i64 x.kind, .int .i64 x.num, .slice A x.kids.length c] t (0, 0))) (hx : LvS w S A c x) (hS : S g) (k n : Int) : LvS w S (some ⟨g, 0, none⟩) 1 (.mk k n [x]) := by
  obtain ⟨h0, h1, h2, _⟩ := row3 h
  refine .mk (fun _ => A) (fun _ => c) (by simp) (by omega) (fun i y hy => ?_) (fun i y hy => ?_)
  · cases i with
    | zero =>
      obtain rfl : x = y := by simpa using hy
      exact ⟨_, rfl, hS, rfl, by rw [add_flat]; exact h0, by rw [add_flat]; exact h1, by rw [add_flat]; exact h2⟩
    | succ i => simp at hy
  · cases i with
    | zero =>
      obtain rfl : x = y := by simpa using hy
      exact hx
    | succ i => simp at hy
theorem set3_size (w : World) (g : Nat) (a b c : Value) : (((w.setCell ⟨g, 0, none⟩ a).setCell ⟨g, 1, none⟩ b).setCell ⟨g, 2, none⟩ c).heap.size = w.heap.size := by simp [World.setCell]
theorem plus_got {w w2 : World} {S : Nat → Prop} {l l' : Lv} {x : Int} {A2 : Option Addr} {c2 : Nat} {o : Obj} {a b c : Value} (h : LvS w2 (fun b => (S b ∧ b < w.heap.size) ∨ w.heap.size + 2 ≤ b) A2 c2 l) (e : l' = .mk l.kind x l.kids) (hb : Below w.heap.size w w2) :
    LvGot w S l' (.returned (.agg #[.int .i64 l.kind, .int .i64 x, .slice A2 l.kids.length c2])) ((((w2.setCell ⟨w.heap.size + 1, 0, none⟩ a).setCell ⟨w.heap.size + 1, 1, none⟩ b).setCell ⟨w.heap.size + 1, 2, none⟩ c).alloc o) := by
  subst e
  have hch := chg_trans (chg_set3 w2 (w.heap.size + 1) a b c) (chg_alloc _ _ o)
  exact ⟨A2, c2, rfl, got_all ((got_chg h hch).renum _ _), Chg.trans_below hb hch (fun _ e => by omega) hb.size⟩
theorem plus_new {w w2 : World} {S : Nat → Prop} {l l' : Lv} {k n : Int} {A2 : Option Addr} {c2 : Nat} {a b c : Value} (h : LvS w2 (fun b => (S b ∧ b < w.heap.size) ∨ w.heap.size + 2 ≤ b) A2 c2 l) (e : l' = .mk k n [l]) (hb : Below w.heap.size w w2) (hz : w.heap.size + 1 < w2.heap.size) :
    LvGot w S l' (.returned (.agg #[.int .i64 k, .int .i64 n, .slice (some ⟨w2.heap.size, 0, none⟩) 1 1])) ((((w2.setCell ⟨w.heap.size + 1, 0, none⟩ a).setCell ⟨w.heap.size + 1, 1, none⟩ b).setCell ⟨w.heap.size + 1, 2, none⟩ c).alloc (.cells #[.int .i64 l.kind, .int .i64 l.num, .slice A2 l.kids.length c2] 24 (0, 0))) := by
  subst e
  have hch := chg_trans (chg_set3 w2 (w.heap.size + 1) a b c) (chg_alloc _ _ (.cells #[.int .i64 l.kind, .int .i64 l.num, .slice A2 l.kids.length c2] 24 (0, 0)))
  have hn := blk_new (((w2.setCell ⟨w.heap.size + 1, 0, none⟩ a).setCell ⟨w.heap.size + 1, 1, none⟩ b).setCell ⟨w.heap.size + 1, 2, none⟩ c) (.cells #[.int .i64 l.kind, .int .i64 l.num, .slice A2 l.kids.length c2] 24 (0, 0))
  rw [set3_size] at hn
  exact ⟨_, 1, rfl, got_all (LvS.one hn (got_chg h hch) (.inr (by omega)) k n), Chg.trans_below hb hch (fun _ e => by omega) hb.size⟩
end Go.Proofs.Ytcgkeolgflphiaa

/-! LvM -/
namespace Go.Proofs.Ytcgkeolgflphiaa
open Go.RowKit Go.Proofs.YtcgkeolgflphiaaW.PrintWords Go.RegionInvYtcgkeolgflphiaa

theorem LvS.pair {w : World} {S : Nat → Prop} {g : Nat} {A A' : Option Addr} {c c' : Nat} {x y : Lv} {t : TypeId}
    (h : w.heap[g]? = some (.cells #[.int .i64 x.kind, .int .i64 x.num, .slice A x.kids.length c, .int .i64 y.kind, .int .i64 y.num, .slice A' y.kids.length c'] t (0, 0))) (hx : LvS w S A c x) (hy : LvS w S A' c' y) (hS : S g) (k n : Int) : LvS w S (some ⟨g, 0, none⟩) 2 (.mk k n [x, y]) := by
  have cell : ∀ (j : Nat) (v : Value), (#[.int .i64 x.kind, .int .i64 x.num, .slice A x.kids.length c, .int .i64 y.kind, .int .i64 y.num, .slice A' y.kids.length c'] : Array Value)[j]? = some v → w.cell? ((⟨g, 0, none⟩ : Addr).add j) = some v := fun j v hv => by
    rw [add_flat, cell_of_row _ _ _ _ _ _ h]; simpa using hv
  refine .mk (fun i => if i = 0 then A else A') (fun i => if i = 0 then c else c') (by simp) (by omega) (fun i z hz => ?_) (fun i z hz => ?_)
  · match i, hz with
    | 0, hz =>
      obtain rfl : x = z := by simpa using hz
      exact ⟨_, rfl, hS, rfl, cell 0 _ rfl, cell 1 _ rfl, cell 2 _ rfl⟩
    | 1, hz =>
      obtain rfl : y = z := by simpa using hz
      exact ⟨_, rfl, hS, rfl, cell 3 _ rfl, cell 4 _ rfl, cell 5 _ rfl⟩
    | i + 2, hz => simp at hz
  · match i, hz with
    | 0, hz =>
      obtain rfl : x = z := by simpa using hz
      exact hx
    | 1, hz =>
      obtain rfl : y = z := by simpa using hz
      exact hy
    | i + 2, hz => simp at hz
def mxP (a b : Lv) : Lv := .mk 4 0 [owP a, owP b]

theorem after_drew {w3 W w5 : World} (h : Below w3.heap.size w3 W) (h5 : Below W.heap.size W w5) : Below w3.heap.size w3 w5 := below_then h h.size h5
theorem got_after {w3 W w5 : World} {S : Nat → Prop} {A : Option Addr} {c : Nat} {l : Lv} (h : Below w3.heap.size w3 W) (hl : LvS w5 (fun b => S b ∨ W.heap.size ≤ b) A c l) : LvS w5 (fun b => S b ∨ w3.heap.size ≤ b) A c l :=
  hl.mono fun b hb _ => hb.imp id fun h' => Nat.le_trans h.size h'
theorem max_got {w w3 w6 : World} {S : Nat → Prop} {a b : Lv} {A5 A6 : Option Addr} {c5 c6 : Nat} {x y z : Value} {o : Obj} (ha : LvS w6 (fun b => (S b ∧ b < w.heap.size) ∨ w3.heap.size ≤ b) A5 c5 (owP a)) (hb : LvS w6 (fun b => (S b ∧ b < w.heap.size) ∨ w3.heap.size ≤ b) A6 c6 (owP b))
    (hB : Below w.heap.size w w6) (hx : w6.heap[w.heap.size + 1 + 1]? = some o) (hz : w3.heap.size = w.heap.size + 3) :
    LvGot w S (mxP a b) (.returned (.agg #[.int .i64 4, .int .i64 0, .slice (some ⟨w6.heap.size, 0, none⟩) 2 2])) ((((w6.alloc (.cells #[.int .i64 (owP a).kind, .int .i64 (owP a).num, .slice A5 (owP a).kids.length c5, .int .i64 (owP b).kind, .int .i64 (owP b).num, .slice A6 (owP b).kids.length c6] 24 (0, 0))).setCell ⟨w.heap.size + 1 + 1, 0, none⟩ x).setCell ⟨w.heap.size + 1 + 1, 1, none⟩ y).setCell ⟨w.heap.size + 1 + 1, 2, none⟩ z) := by
  have hlt := blk_lt hx
  have hc1 := chg_set3 (w6.alloc (.cells #[.int .i64 (owP a).kind, .int .i64 (owP a).num, .slice A5 (owP a).kids.length c5, .int .i64 (owP b).kind, .int .i64 (owP b).num, .slice A6 (owP b).kids.length c6] 24 (0, 0))) (w.heap.size + 1 + 1) x y z
  have hch := chg_trans (chg_alloc (fun k => k = w.heap.size + 1 + 1) w6 (.cells #[.int .i64 (owP a).kind, .int .i64 (owP a).num, .slice A5 (owP a).kids.length c5, .int .i64 (owP b).kind, .int .i64 (owP b).num, .slice A6 (owP b).kids.length c6] 24 (0, 0))) hc1
  have hn := (hc1.block w6.heap.size (by simp) (by omega)).trans (blk_new w6 _)
  have conv : ∀ {A : Option Addr} {c : Nat} {l : Lv}, LvS w6 (fun b => (S b ∧ b < w.heap.size) ∨ w3.heap.size ≤ b) A c l → LvS _ (fun b => S b ∨ w.heap.size ≤ b) A c l := fun h =>
    (h.same fun b hb hz => hch.block b hz (by omega)).mono fun b hb _ => hb.elim (fun h => .inl h.1) fun h => .inr (by omega)
  exact ⟨_, 2, rfl, LvS.pair hn (conv ha) (conv hb) (.inr (by omega)) 4 0, Chg.trans_below hB hch (fun _ e => by omega) hB.size⟩
end Go.Proofs.Ytcgkeolgflphiaa

/-! Nf -/
namespace Go.Proofs.Ytcgkeolgflphiaa
open Go.RowKit Go.Proofs.YtcgkeolgflphiaaW.PrintWords Go.RegionInvYtcgkeolgflphiaa

/-- Whole numbers that can be read, in blocks of S. -/
def IntsS (w : World) (S : Nat → Prop) (A : Option Addr) (n : Nat) (ks : List Int) : Prop := ReadsInt w .i64 A n ks ∧ (0 < n → ∃ ad, A = some ad ∧ S ad.block)
theorem IntsS.same {w w' : World} {S : Nat → Prop} {A : Option Addr} {n : Nat} {ks : List Int} (h : IntsS w S A n ks) (hs : ∀ k, S k → k < w.heap.size → w'.heap[k]? = w.heap[k]?) : IntsS w' S A n ks := by
  refine ⟨⟨h.1.1, h.1.2.1, fun hn => ?_⟩, h.2⟩
  obtain ⟨ad, e, hc⟩ := h.1.2.2 hn
  obtain ⟨ad', e', hS⟩ := h.2 hn
  rw [e] at e'
  obtain rfl := Option.some.inj e'
  refine ⟨ad, e, fun j hj => ?_⟩
  have hb : (ad.add j).block = ad.block := add_block _ _
  have hx := hc j hj
  exact (cell_same (w := w) (w' := w') (by rw [hb]; exact hs _ hS (by have := World.block_lt_of_cell? w _ hx; rwa [hb] at this))).trans hx
theorem IntsS.later {w w' : World} {S : Nat → Prop} {A : Option Addr} {n : Nat} {ks : List Int} (h : IntsS w S A n ks) (hb : Below w.heap.size w w') : IntsS w' S A n ks := h.same fun k _ hk => hb.block k hk
theorem IntsS.mono {w : World} {S S' : Nat → Prop} {A : Option Addr} {n : Nat} {ks : List Int} (h : IntsS w S A n ks) (hS : ∀ k, S k → k < w.heap.size → S' k) : IntsS w S' A n ks := by
  refine ⟨h.1, fun hn => ?_⟩
  obtain ⟨ad, e, hs⟩ := h.2 hn
  obtain ⟨ad', e', hc⟩ := h.1.2.2 hn
  rw [e] at e'
  obtain rfl := Option.some.inj e'
  exact ⟨ad, e, hS _ hs (by have := World.block_lt_of_cell? w _ (hc 0 hn); rwa [add_block] at this)⟩
theorem IntsS.nil (w : World) (S : Nat → Prop) : IntsS w S none 0 [] := ⟨⟨rfl, by omega, fun h => absurd h (by omega)⟩, fun h => absurd h (by omega)⟩
theorem IntsS.of_own {w : World} {base : Nat} {e : TypeId} {v : Value} {n : Nat} {ks : List Int} (h : w.ownsRow base e 1 v n (nums .i64 ks)) : ∃ A c, v = .slice A n c ∧ n ≤ c ∧ IntsS w (fun b => base ≤ b) A n ks := by
  obtain ⟨A, c, rfl, hr⟩ := own_reads h
  refine ⟨A, c, rfl, own_cap h, hr, fun hn => ?_⟩
  obtain ⟨g, cap, hv, hb, _⟩ := h.form hn
  injection hv with hA
  exact ⟨_, hA, hb⟩

def atP (ks : List Int) (i : Int) : Int := if i < ks.length then rd ks i else -1
theorem atP_in {ks : List Int} {i : Int} (h : i < ks.length) : atP ks i = rd ks i := if_pos h
theorem atP_out {ks : List Int} {i : Int} (h : ¬ i < ks.length) : atP ks i = -1 := if_neg h
set_option maxHeartbeats 2000000 in
theorem at_calls (A : Option Addr) (n cap : Nat) (c : Int) (ks : List Int) (i : Int) (w : World) (hr : ReadsInt w .i64 A n ks) (h0 : 0 ≤ i) :
    Calls Try.prog 129 #[.agg #[.int .i64 c, .slice A n cap], .int .i64 i] w fun e w' => e = .returned (.int .i64 (atP ks i)) ∧ Below w.heap.size w w' := by
  have HR := Aside0.mk (hr.below ((Below.refl w.heap.size w).alloc (Nat.le_refl _) (.cells #[.int .i64 c, .slice A n cap] 137 (0, 0))))
  have hn := hr.1
  have hn9 := hr.2.1
  clear hr
  go_enter Try.func129, Try.ntmps129
  by_cases h1 : i < n
  · have HE := Aside0.mk (atP_in (ks := ks) (i := i) (by rw [hn]; exact h1))
    obtain ⟨ad, rfl, hc⟩ := HR.out.at_ i h0 h1
    clear hn
    go_wp2
    go_ret
    exact ⟨by rw [HE.out]; rfl, below_alloc (Below.refl _ _) _⟩
  · have HE := Aside0.mk (atP_out (ks := ks) (i := i) (by rw [hn]; exact h1))
    clear hn
    go_wp2
    go_ret
    exact ⟨by rw [HE.out]; rfl, below_alloc (Below.refl _ _) _⟩
/-- A sum that a call gives. -/
def NfGot (w : World) (S : Nat → Prop) (f : Int × List Int) (e : Ending) (w' : World) : Prop :=
  ∃ A n cap, e = .returned (.agg #[.int .i64 f.1, .slice A n cap]) ∧ n ≤ cap ∧ IntsS w' (fun b => S b ∨ w.heap.size ≤ b) A n f.2 ∧ Below w.heap.size w w'
theorem row2 {w : World} {g : Nat} {a b : Value} {t : TypeId} (h : w.heap[g]? = some (.cells #[a, b] t (0, 0))) :
    w.cell? ⟨g, 0, none⟩ = some a ∧ w.cell? ⟨g, 1, none⟩ = some b ∧ w.frozen? ⟨g, 0, none⟩ = false ∧ w.frozen? ⟨g, 1, none⟩ = false := by
  refine ⟨?_, ?_, blk_frozen h 0, blk_frozen h 1⟩ <;> (rw [cell_of_row _ _ _ _ _ _ h]; rfl)
theorem set2 {w : World} {g : Nat} {x y a b : Value} {t : TypeId} (h : w.heap[g]? = some (.cells #[x, y] t (0, 0))) :
    ((w.setCell ⟨g, 0, none⟩ a).setCell ⟨g, 1, none⟩ b).heap[g]? = some (.cells #[a, b] t (0, 0)) := blk_put (blk_put h 0 a rfl) 1 b rfl
theorem chg_set2 (w : World) (g : Nat) (a b : Value) : Chg (fun k => k = g) w ((w.setCell ⟨g, 0, none⟩ a).setCell ⟨g, 1, none⟩ b) := chg_trans (chg_set _ _ _ _) (chg_set _ _ _ _)

/-! ### So much more -/
def addN (k x : Int) : Int := if 0 ≤ x then min 1099511627776 (x + k) else x
def plusN (k : Int) (f : Int × List Int) : Int × List Int := (min 1099511627776 (f.1 + k), f.2.map (addN k))
end Go.Proofs.Ytcgkeolgflphiaa

/-! LvR -/
namespace Go.Proofs.Ytcgkeolgflphiaa
open Go.RowKit Go.Proofs.YtcgkeolgflphiaaW.PrintWords Go.RegionInvYtcgkeolgflphiaa

set_option maxHeartbeats 2000000 in
theorem arity_calls (k : Int) (w : World) : Calls Try.prog 77 #[.int .i64 k] w fun e w' => e = .returned (.int .i64 (arityP k)) ∧ w' = w := by
  go_enter Try.func77, Try.ntmps77
  by_cases h1 : k = 1
  · have H := Aside0.mk (arity_12 (.inl h1))
    have e1 : (k == 1) = true := by simp [h1]
    clear h1
    go_wp2
    go_ret
    exact ⟨by rw [H.out]; rfl, rfl⟩
  · have e1 : (k == 1) = false := by simp [h1]
    by_cases h2 : k = 2
    · have H := Aside0.mk (arity_12 (.inr h2))
      have e2 : (k == 2) = true := by simp [h2]
      clear h1 h2
      go_wp2
      go_ret
      exact ⟨by rw [H.out]; rfl, rfl⟩
    · have e2 : (k == 2) = false := by simp [h2]
      by_cases h3 : k = 3
      · have H := Aside0.mk (show arityP k = 1 by rw [h3]; decide)
        have e3 : (k == 3) = true := by simp [h3]
        clear h1 h2 h3
        go_wp2
        go_ret
        exact ⟨by rw [H.out]; rfl, rfl⟩
      · have e3 : (k == 3) = false := by simp [h3]
        by_cases h4 : k = 4
        · have H := Aside0.mk (show arityP k = 2 by rw [h4]; decide)
          have e4 : (k == 4) = true := by simp [h4]
          clear h1 h2 h3 h4
          go_wp2
          go_ret
          exact ⟨by rw [H.out]; rfl, rfl⟩
        · have H := Aside0.mk (arity_no h1 h2 h3 h4)
          have e4 : (k == 4) = false := by simp [h4]
          clear h1 h2 h3 h4
          go_wp2
          go_ret
          exact ⟨by rw [H.out]; rfl, rfl⟩


end Go.Proofs.Ytcgkeolgflphiaa

/-! LvRS -/
namespace Go.Proofs.Ytcgkeolgflphiaa
open Go.RowKit Go.Proofs.YtcgkeolgflphiaaW.PrintWords Go.RegionInvYtcgkeolgflphiaa

theorem one_ne {s : Int} : ((1 : Int), s).1 ≠ 0 := by show (1 : Int) ≠ 0; decide
theorem ref_bit {b : Bool} {s : Int} : (((if b = true then (0 : Int) else 1), s).1 == 0) = b := by cases b <;> rfl
theorem ref_leaf {k n : Int} {ks : List Lv} {d s : Int} (hk : k = 1 ∨ k = 2) (hm : (ks.length : Int) = arityP k) (hd : d ≤ 256) (hs : s + 1 ≤ 1000) : walkP sndF (.mk k n ks) d s = ((if rightP (.mk k n ks) 1099511627776 1000 = true then (0 : Int) else 1), s + 1) := by
  rw [arity_12 hk] at hm
  obtain rfl : ks = [] := List.eq_nil_of_length_eq_zero (by omega)
  cases hR : rightP (.mk k n []) 1099511627776 1000 with
  | false =>
    have h := sndF_bad (l := .mk k n []) (d := d) (s := s) (.inr (.inr hR))
    rw [walkP_stop (by rw [h]; exact one_ne), h]; rfl
  | true =>
    have h := sndF_ok (l := .mk k n []) (d := d) (s := s) (by rw [hR]; simp; omega)
    rw [walkP_go (by rw [h]), h]; rfl
def RefPost (w : World) (g : Nat) (r : Int × Int) (e : Ending) (w' : World) : Prop := e = .returned (.bool (r.1 == 0)) ∧ NumAt w' g r.2 ∧ Chg (fun k => k = g) w w'
set_option maxHeartbeats 4000000 in
theorem ref_sound (N : Nat) : ∀ (l : Lv), SizeOf.sizeOf l < N → ∀ (A : Option Addr) (c : Nat) (d s : Int) (g B : Nat) (w : World), LvIn w B A c l → NumAt w g s → B ≤ g → 0 ≤ s → s ≤ 1000 → 0 ≤ d → d ≤ 257 →
    Calls Try.prog 51 #[lvV A c l, .int .i64 d, .pointer (some ⟨g, 0, none⟩)] w (RefPost w g (walkP sndF l d s)) := by
  induction N with
  | zero => intro l h; omega
  | succ N ih =>
    rintro ⟨lk, ln, ks⟩ hN A c d s g B w hin hg hBg hs0 hs1 hd0 hd1
    have IH := Aside0.mk ih
    have HIN := Aside0.mk hin
    have HG := Aside0.mk hg
    have hcell := hg.cell
    have hfz := blk_frozen hg 0
    have hlen := hin.len
    simp only [Lv.kids] at hlen
    have hl9 : ks.length ≤ 9223372036854775807 := by omega
    have hglt := blk_lt hg
    have hgne : g ≠ w.heap.size := Nat.ne_of_lt hglt
    clear ih hin hg hlen
    unfold lvV
    simp only [Lv.kind, Lv.num, Lv.kids]
    obtain ⟨m, hm⟩ : ∃ m, m = ks.length := ⟨_, rfl⟩
    rw [← hm] at hl9 ⊢
    have HM := Aside0.mk hm
    clear hm
    have hfin : NumAt ((w.setCell ⟨g, 0, none⟩ (.int .i64 (s + 1))).alloc (.cells #[.int .i64 lk, .int .i64 ln, .slice A m c] 24 (0, 0))) g (s + 1) := (HG.out.set _).alloc _
    have hch : Chg (fun k => k = g) w ((w.setCell ⟨g, 0, none⟩ (.int .i64 (s + 1))).alloc (.cells #[.int .i64 lk, .int .i64 ln, .slice A m c] 24 (0, 0))) := chg_trans (chg_set _ _ _ _) (chg_alloc _ _ _)
    have HF := Aside0.mk (And.intro hfin hch)
    have hc2 := hfin.cell
    clear hfin hch
    go_enter Try.func51, Try.ntmps51
    by_cases h1 : 256 < d
    · have hw := Aside0.mk (show walkP sndF (.mk lk ln ks) d s = (1, s + 1) by rw [walkP_stop (by rw [sndF_bad (.inr (.inl h1))]; exact one_ne), sndF_bad (.inr (.inl h1))])
      go_upto_region 2 with (fail)
      go_quiet ((go_at_call 77; exact Calls.quiet_of_same (arity_calls _ _)))
      go_wp2
      go_ret
      rw [hw.out]
      exact ⟨rfl, HF.out.1, chg_drewN HF.out.2 _⟩
    · by_cases h2 : 1000 < s + 1
      · have hw := Aside0.mk (show walkP sndF (.mk lk ln ks) d s = (1, s + 1) by rw [walkP_stop (by rw [sndF_bad (.inl h2)]; exact one_ne), sndF_bad (.inl h2)])
        go_upto_region 2 with (fail)
        go_quiet ((go_at_call 77; exact Calls.quiet_of_same (arity_calls _ _)))
        go_wp2
        go_ret
        rw [hw.out]
        exact ⟨rfl, HF.out.1, chg_drewN HF.out.2 _⟩
      · by_cases h3 : (m : Int) = arityP lk
        · have h3' : ((m : Int) != arityP lk) = false := by simp [h3]
          have h3n : 0 ≤ arityP lk := by omega
          have HAR := Aside0.mk h3
          clear h3
          go_upto_region 2 with (fail)
          go_quiet ((go_at_call 77; exact Calls.quiet_of_same (arity_calls _ _)))
          go_upto_block 0 with (fail)
          go_cut [] (fun w2 => Aside0 (rightP (.mk lk ln ks) 1099511627776 1000 = true) ∧ Aside0 (NumAt w2 g (s + 1)) ∧ Aside0 (Chg (fun k => k = g) w w2) ∧ w2.cell? ⟨w.heap.size, 2, none⟩ = some (.slice A m c))
          case first =>
            have hbx : ((w.setCell ⟨g, 0, none⟩ (.int .i64 (s + 1))).alloc (.cells #[.int .i64 lk, .int .i64 ln, .slice A m c] 24 (0, 0))).cell? ⟨w.heap.size, 2, none⟩ = some (.slice A m c) := by
              have := box_cell (w.setCell ⟨g, 0, none⟩ (.int .i64 (s + 1))) #[.int .i64 lk, .int .i64 ln, .slice A m c] 24 2 (.slice A m c) rfl
              rwa [show (w.setCell ⟨g, 0, none⟩ (.int .i64 (s + 1))).heap.size = w.heap.size by simp [World.setCell]] at this
            have HBX := Aside0.mk hbx
            clear hbx
            by_cases k1 : lk = 1
            · have e1 : (lk == 1) = true := by simp [k1]
              have HL := Aside0.mk (ref_leaf (n := ln) (ks := ks) (d := d) (s := s) (.inl k1) (by rw [← HM.out]; exact HAR.out) (by omega) (by omega))
              have HRR := Aside0.mk (show rightP (.mk lk ln ks) 1099511627776 1000 = decide (0 ≤ ln ∧ ln ≤ 1099511627776) by rw [k1]; exact right_num (by rw [← HM.out, HAR.out, k1]))
              clear k1
              by_cases q1 : 0 ≤ ln
              · go_wp2
                go_ret
                exact ⟨congrArg (fun b => Ending.returned (.bool b)) (by rw [HL.out, ref_bit, HRR.out]; first | exact (decide_eq_true (by omega)).symm | exact decide_eq_decide.2 (by omega)), by rw [HL.out]; exact HF.out.1, chg_drewN HF.out.2 _⟩
              · go_wp2
                go_ret
                exact ⟨congrArg (fun b => Ending.returned (.bool b)) (by rw [HL.out, ref_bit, HRR.out]; exact (decide_eq_false (by omega)).symm), by rw [HL.out]; exact HF.out.1, chg_drewN HF.out.2 _⟩
            · have e1 : (lk == 1) = false := by simp [k1]
              by_cases k2 : lk = 2
              · have e2 : (lk == 2) = true := by simp [k2]
                have HL := Aside0.mk (ref_leaf (n := ln) (ks := ks) (d := d) (s := s) (.inr k2) (by rw [← HM.out]; exact HAR.out) (by omega) (by omega))
                have HRR := Aside0.mk (show rightP (.mk lk ln ks) 1099511627776 1000 = decide (0 ≤ ln ∧ ln ≤ 1000) by rw [k2]; exact right_var (by rw [← HM.out, HAR.out, k2]))
                clear k1 k2
                by_cases q1 : 0 ≤ ln
                · go_wp2
                  go_ret
                  exact ⟨congrArg (fun b => Ending.returned (.bool b)) (by rw [HL.out, ref_bit, HRR.out]; first | exact (decide_eq_true (by omega)).symm | exact decide_eq_decide.2 (by omega)), by rw [HL.out]; exact HF.out.1, chg_drewN HF.out.2 _⟩
                · go_wp2
                  go_ret
                  exact ⟨congrArg (fun b => Ending.returned (.bool b)) (by rw [HL.out, ref_bit, HRR.out]; exact (decide_eq_false (by omega)).symm), by rw [HL.out]; exact HF.out.1, chg_drewN HF.out.2 _⟩
              · have e2 : (lk == 2) = false := by simp [k2]
                by_cases k3 : lk = 3
                · have e3 : (lk == 3) = true := by simp [k3]
                  have hrr : rightP (.mk lk ln ks) 1099511627776 1000 = decide (1 ≤ ln ∧ ln ≤ 1099511627776) := by rw [k3]; exact right_succ (by rw [← HM.out, HAR.out, k3])
                  clear k1 k2 k3
                  by_cases q : 1 ≤ ln ∧ ln ≤ 1099511627776
                  · have HRT := Aside0.mk (hrr.trans (decide_eq_true q))
                    have q1 := q.1
                    have q2 := q.2
                    clear hrr q
                    go_wp2
                    go_meet
                    case rel => exact ⟨HRT, ⟨HF.out.1⟩, ⟨chg_drewN HF.out.2 _⟩, HBX.out⟩
                  · have hbad := hrr.trans (decide_eq_false q)
                    have hw := Aside0.mk (show walkP sndF (.mk lk ln ks) d s = (1, s + 1) by rw [walkP_stop (by rw [sndF_bad (.inr (.inr hbad))]; exact one_ne), sndF_bad (.inr (.inr hbad))])
                    clear hrr hbad
                    by_cases q1 : ln < 1
                    · go_wp2
                      go_ret
                      rw [hw.out]
                      exact ⟨rfl, HF.out.1, chg_drewN HF.out.2 _⟩
                    · have q2 : 1099511627776 < ln := by omega
                      go_wp2
                      go_ret
                      rw [hw.out]
                      exact ⟨rfl, HF.out.1, chg_drewN HF.out.2 _⟩
                · have e3 : (lk == 3) = false := by simp [k3]
                  have HRT := Aside0.mk (right_else (n := ln) (ks := ks) (most := 1099511627776) (mostV := 1000) (by rw [← HM.out]; exact HAR.out) k1 k2 k3)
                  clear k1 k2 k3
                  go_wp2
                  go_meet
                  case rel => exact ⟨HRT, ⟨HF.out.1⟩, ⟨chg_drewN HF.out.2 _⟩, HBX.out⟩
          case rest =>
            obtain ⟨HRT, HG0, HC0, hbox2⟩ := hcut
            have hok := sndF_ok (l := .mk lk ln ks) (d := d) (s := s) (by rw [HRT.out]; simp; omega)
            have hz : (sndF (.mk lk ln ks) d s).1 = 0 := by rw [hok]
            have HE := Aside0.mk (walkP_go hz)
            rw [hok] at HE
            simp only [Lv.kids] at HE
            have hs3 : s + 1 ≤ 1000 := by omega
            clear hok hz
            go_wp2
            go_loopw [72] (fun i wr => ∃ (k : Nat) (s' : Int), i = .int .i64 k ∧ k ≤ m ∧ 0 ≤ s' ∧ s' ≤ 1000 ∧ Aside0 (walkKs sndF (ks.drop k) (d + 1) s' = walkP sndF (.mk lk ln ks) d s) ∧ Aside0 (NumAt wr g s') ∧ Aside0 (Chg (fun k => k = g) w wr)) (fun i _ => m - (intOf i).toNat)
            case atStart => exact ⟨0, s + 1, rfl, Nat.zero_le _, by omega, by omega, ⟨HE.out.symm⟩, HG0, HC0⟩
            case round =>
              clear HE HG0 HC0 hbox2
              obtain ⟨k, s', rfl, hk, hs4, hs5, HE, HG1, HC1⟩ := hrel
              have HIN2 := Aside0.mk (LvIn.stay HIN.out (chg_below HC1.out hBg (Nat.le_of_lt (Nat.lt_of_le_of_lt hBg hglt))))
              by_cases hlt : k < m
              · have hlt2 : k < ks.length := by rw [← HM.out]; exact hlt
                obtain ⟨x, hx⟩ : ∃ x, ks[k]? = some x := ⟨_, List.getElem?_eq_getElem hlt2⟩
                obtain ⟨A', c', hcs, hin⟩ := HIN2.out.kid k x hx
                obtain ⟨ad, rfl, hc1, hc2, hc3⟩ := hcs.facts
                clear hcs
                have HX := Aside0.mk hx
                have HXIN := Aside0.mk hin
                clear hx hin hlt2
                have hglt2 := blk_lt HG1.out
                by_cases h2 : (walkP sndF x (d + 1) s').1 = 0
                · have hsm := walkP_small sndF_small x (d + 1) s' hs4 h2
                  have HK := Aside0.mk ((walkKs_go (r := ks.drop (k + 1)) h2).symm.trans ((congrArg (fun l => walkKs sndF l (d + 1) s') (drop_kid HX.out)).symm.trans HE.out))
                  obtain ⟨e2, s2, hes⟩ : ∃ a b, walkP sndF x (d + 1) s' = (a, b) := ⟨_, _, rfl⟩
                  have HV := Aside0.mk hes
                  rw [hes] at hsm h2 HK
                  simp only at hsm h2 HK
                  subst h2
                  have hs6 := hsm.1
                  have hs7 := hsm.2
                  clear hes hsm
                  go_wp2_with (go_at_call 51; go_must (refine (IH.out x (Nat.lt_of_lt_of_le (kid_small HX.out) (Nat.le_of_lt_succ hN)) A' c' (d + 1) s' g B _ (LvIn.stay HXIN.out ((Below.refl _ _).alloc (Nat.le_of_lt (Nat.lt_of_le_of_lt hBg hglt2)) _)) (HG1.out.alloc _) hBg hs4 hs5 (by omega) (by omega)).mono ?_; rintro e w2 ⟨rfl, hg1, hc1⟩; rw [HV.out] at hg1 ⊢; have HG2 := Aside0.mk hg1; have HC2 := Aside0.mk (chg_trans HC1.out (chg_trans (chg_alloc _ _ _) hc1)); clear hg1 hc1))
                  go_roundw
                  case rel => exact ⟨k + 1, s2, by go_num, by omega, hs6, hs7, HK, HG2, HC2⟩
                  case measure => (simp [intOf]; try omega)
                · have HK := Aside0.mk ((walkKs_stop (r := ks.drop (k + 1)) h2).symm.trans ((congrArg (fun l => walkKs sndF l (d + 1) s') (drop_kid HX.out)).symm.trans HE.out))
                  obtain ⟨e2, s2, hes⟩ : ∃ a b, walkP sndF x (d + 1) s' = (a, b) := ⟨_, _, rfl⟩
                  have HV := Aside0.mk hes
                  rw [hes] at h2
                  have h2' : (e2 == 0) = false := by simpa using h2
                  clear hes h2
                  go_wp2_with (go_at_call 51; go_must (refine (IH.out x (Nat.lt_of_lt_of_le (kid_small HX.out) (Nat.le_of_lt_succ hN)) A' c' (d + 1) s' g B _ (LvIn.stay HXIN.out ((Below.refl _ _).alloc (Nat.le_of_lt (Nat.lt_of_le_of_lt hBg hglt2)) _)) (HG1.out.alloc _) hBg hs4 hs5 (by omega) (by omega)).mono ?_; rintro e w2 ⟨rfl, hg1, hc1⟩; rw [HV.out] at hg1 ⊢; have HG2 := Aside0.mk hg1; have HC2 := Aside0.mk (chg_trans HC1.out (chg_trans (chg_alloc _ _ _) hc1)); clear hg1 hc1))
                  go_ret
                  rw [← HK.out, HV.out]
                  exact ⟨by simp [h2'], HG2.out, HC2.out⟩
              · obtain rfl : k = m := by omega
                have hlt' : decide ((k : Int) < k) = false := by simp
                have HW := Aside0.mk (show walkP sndF (.mk lk ln ks) d s = (0, s') by rw [← HE.out, List.drop_of_length_le (by rw [← HM.out]; exact Nat.le_refl _), walkKs])
                go_wp2
                go_ret
                rw [HW.out]
                exact ⟨rfl, HG1.out, HC1.out⟩
        · have hbad : rightP (.mk lk ln ks) 1099511627776 1000 = false := right_bad (by rw [← HM.out]; exact h3)
          have hw := Aside0.mk (show walkP sndF (.mk lk ln ks) d s = (1, s + 1) by rw [walkP_stop (by rw [sndF_bad (.inr (.inr hbad))]; exact one_ne), sndF_bad (.inr (.inr hbad))])
          have h3' : ((m : Int) != arityP lk) = true := by simp [h3]
          clear hbad h3
          go_upto_region 2 with (fail)
          by_cases h4 : arityP lk < 0
          · go_quiet ((go_at_call 77; exact Calls.quiet_of_same (arity_calls _ _)))
            go_wp2
            go_ret
            rw [hw.out]
            exact ⟨rfl, HF.out.1, chg_drewN HF.out.2 _⟩
          · go_quiet ((go_at_call 77; exact Calls.quiet_of_same (arity_calls _ _)))
            go_wp2
            go_ret
            rw [hw.out]
            exact ⟨rfl, HF.out.1, chg_drewN HF.out.2 _⟩
end Go.Proofs.Ytcgkeolgflphiaa

/-! MayR -/
namespace Go.Proofs.Ytcgkeolgflphiaa
open Go.RowKit Go.Proofs.YtcgkeolgflphiaaW.PrintWords Go.RegionInvYtcgkeolgflphiaa

/-- What May tells. -/
def mayB (v : Int) (l : Lv) : Int := (walkP (mayF v) l 1 0).1
set_option maxHeartbeats 4000000 in
theorem may_calls (A : Option Addr) (c : Nat) (l : Lv) (v : Int) (w : World) (hin : LvIn w w.heap.size A c l) :
    Calls Try.prog 84 #[lvV A c l, .int .i64 v] w fun e w' => e = .returned (.int .i64 (mayB v l)) ∧ Below w.heap.size w w' := by
  have HIN := Aside0.mk hin
  clear hin
  unfold lvV
  go_enter Try.func84, Try.ntmps84
  obtain ⟨w3, hw3⟩ : ∃ w3, w3 = (((w.alloc (.cells #[.int .i64 l.kind, .int .i64 l.num, .slice A l.kids.length c] 24 (0, 0))).alloc (.cells #[.int .i64 v] 3 (0, 0))).alloc (.cells #[.int .i64 0] 3 (0, 0))) := ⟨_, rfl⟩
  have hnew : NumAt w3 (w.heap.size + 1 + 1) 0 := by
    have := blk_new ((w.alloc (.cells #[.int .i64 l.kind, .int .i64 l.num, .slice A l.kids.length c] 24 (0, 0))).alloc (.cells #[.int .i64 v] 3 (0, 0))) (.cells #[.int .i64 0] 3 (0, 0))
    rw [hw3]
    simpa [NumAt] using this
  have hvar : NumAt w3 (w.heap.size + 1) v := by
    have := blk_alloc (blk_new (w.alloc (.cells #[.int .i64 l.kind, .int .i64 l.num, .slice A l.kids.length c] 24 (0, 0))) (.cells #[.int .i64 v] 3 (0, 0))) (.cells #[.int .i64 0] 3 (0, 0))
    rw [hw3]
    simpa [NumAt] using this
  have hb3 : Below w.heap.size w w3 := by rw [hw3]; exact below_alloc (below_alloc (below_alloc (Below.refl _ _) _) _) _
  have HNEW := Aside0.mk hnew
  have HVAR := Aside0.mk hvar
  have HB3 := Aside0.mk hb3
  have HW3 := Aside0.mk hw3
  clear hnew hvar hb3 hw3
  go_wp2_with (go_at_call 100; go_must (rw [← HW3.out]; refine (walk_may v (w.heap.size + 1) _ l (Nat.lt_succ_self _) A c 1 0 (w.heap.size + 1 + 1) w.heap.size _ (LvIn.stay HIN.out HB3.out) HNEW.out HVAR.out (by omega) (by omega) (by decide) (by decide) (by decide) (by decide)).mono ?_; rintro e w1 ⟨rfl, -, hc⟩; have HB := Aside0.mk (Chg.trans_below HB3.out hc (fun _ e => by omega) HB3.out.size); clear hc))
  go_ret
  exact ⟨rfl, HB.out⟩
theorem may_bad {v : Int} {l : Lv} {d s : Int} {e : Int} (h : mayF v l d s = (e, s + 1)) (he : e ≠ 0) : walkP (mayF v) l d s = (e, s + 1) := by rw [walkP_stop (by rw [h]; exact he), h]
set_option maxRecDepth 4000 in
set_option maxHeartbeats 8000000 in
theorem ref_may (v : Int) (N : Nat) : ∀ (l : Lv), SizeOf.sizeOf l < N → ∀ (A : Option Addr) (c : Nat) (d s : Int) (g B : Nat) (w : World), LvIn w B A c l → NumAt w g s → B ≤ g → 0 ≤ s → s ≤ 100 → 0 ≤ d → d ≤ 33 →
    Calls Try.prog 103 #[lvV A c l, .int .i64 v, .int .i64 d, .pointer (some ⟨g, 0, none⟩)] w (VisitPost w g (walkP (mayF v) l d s)) := by
  induction N with
  | zero => intro l h; omega
  | succ N ih =>
    rintro ⟨lk, ln, ks⟩ hN A c d s g B w hin hg hBg hs0 hs1 hd0 hd1
    have IH := Aside0.mk ih
    have HIN := Aside0.mk hin
    have HG := Aside0.mk hg
    have hcell := hg.cell
    have hfz := blk_frozen hg 0
    have hlen := hin.len
    simp only [Lv.kids] at hlen
    have hl9 : ks.length ≤ 9223372036854775807 := by omega
    have hglt := blk_lt hg
    have hgne : g ≠ w.heap.size := Nat.ne_of_lt hglt
    clear ih hin hg hlen
    unfold lvV
    simp only [Lv.kind, Lv.num, Lv.kids]
    obtain ⟨m, hm⟩ : ∃ m, m = ks.length := ⟨_, rfl⟩
    rw [← hm] at hl9 ⊢
    have HM := Aside0.mk hm
    clear hm
    have hfin : NumAt ((w.setCell ⟨g, 0, none⟩ (.int .i64 (s + 1))).alloc (.cells #[.int .i64 lk, .int .i64 ln, .slice A m c] 24 (0, 0))) g (s + 1) := (HG.out.set _).alloc _
    have hch : Chg (fun k => k = g) w ((w.setCell ⟨g, 0, none⟩ (.int .i64 (s + 1))).alloc (.cells #[.int .i64 lk, .int .i64 ln, .slice A m c] 24 (0, 0))) := chg_trans (chg_set _ _ _ _) (chg_alloc _ _ _)
    have HF := Aside0.mk (And.intro hfin hch)
    have hc2 := hfin.cell
    clear hfin hch
    go_enter Try.func103, Try.ntmps103
    by_cases h1 : 32 < d
    · have hw := Aside0.mk (may_bad (mayF_long (v := v) (l := .mk lk ln ks) (s := s) (.inl h1)) (by decide))
      go_wp2
      go_ret
      rw [hw.out]
      exact ⟨rfl, HF.out.1, HF.out.2⟩
    · by_cases h2 : 100 < s + 1
      · have hw := Aside0.mk (may_bad (mayF_long (v := v) (l := .mk lk ln ks) (d := d) (.inr h2)) (by decide))
        go_wp2
        go_ret
        rw [hw.out]
        exact ⟨rfl, HF.out.1, HF.out.2⟩
      · by_cases h3 : (m : Int) = arityP lk
        · have h3' : ((m : Int) != arityP lk) = false := by simp [h3]
          have h3n : 0 ≤ arityP lk := by omega
          have HAR := Aside0.mk h3
          clear h3
          go_upto_block 0 with (fail)
          go_cut [] (fun w2 => Aside0 (mayF v (.mk lk ln ks) d s = (0, s + 1)) ∧ Aside0 (NumAt w2 g (s + 1)) ∧ Aside0 (Chg (fun k => k = g) w w2) ∧ w2.cell? ⟨w.heap.size, 2, none⟩ = some (.slice A m c))
          case first =>
            have hbx : ((w.setCell ⟨g, 0, none⟩ (.int .i64 (s + 1))).alloc (.cells #[.int .i64 lk, .int .i64 ln, .slice A m c] 24 (0, 0))).cell? ⟨w.heap.size, 2, none⟩ = some (.slice A m c) := by
              have := box_cell (w.setCell ⟨g, 0, none⟩ (.int .i64 (s + 1))) #[.int .i64 lk, .int .i64 ln, .slice A m c] 24 2 (.slice A m c) rfl
              rwa [show (w.setCell ⟨g, 0, none⟩ (.int .i64 (s + 1))).heap.size = w.heap.size by simp [World.setCell]] at this
            have HBX := Aside0.mk hbx
            clear hbx
            by_cases k1 : lk = 1
            · have e1 : (lk == 1) = true := by simp [k1]
              have e2 : (lk == 2) = false := by simp [k1]
              have e3 : (lk == 3) = false := by simp [k1]
              have HR := Aside0.mk (mayF_rest (v := v) (l := .mk lk ln ks) (d := d) (s := s) (by omega) (fun h => by have := h.1; simp only [Lv.kind] at this; omega))
              have HRR := Aside0.mk (show rightP (.mk lk ln ks) 1048576 0 = decide (0 ≤ ln ∧ ln ≤ 1048576) by rw [k1]; exact right_num (by rw [← HM.out, HAR.out, k1]))
              clear k1
              by_cases q0 : ln < 0
              · have hw := Aside0.mk (may_bad (HR.out.trans (if_pos (by rw [HRR.out]; exact decide_eq_false (by omega)))) (by decide))
                go_upto_region 4 with (fail)
                go_quiet ((go_at_call 77; exact Calls.quiet_of_same (arity_calls _ _)))
                go_wp2
                go_ret
                rw [hw.out]
                exact ⟨rfl, HF.out.1, chg_drewN HF.out.2 _⟩
              · by_cases q1 : 1048576 < ln
                · have hw := Aside0.mk (may_bad (HR.out.trans (if_pos (by rw [HRR.out]; exact decide_eq_false (by omega)))) (by decide))
                  go_upto_region 4 with (fail)
                  go_quiet ((go_at_call 77; exact Calls.quiet_of_same (arity_calls _ _)))
                  go_wp2
                  go_ret
                  rw [hw.out]
                  exact ⟨rfl, HF.out.1, chg_drewN HF.out.2 _⟩
                · have HOK := Aside0.mk (HR.out.trans (if_neg (by rw [HRR.out, decide_eq_true (by omega)]; decide)))
                  go_upto_region 4 with (fail)
                  go_quiet ((go_at_call 77; exact Calls.quiet_of_same (arity_calls _ _)))
                  go_wp2
                  go_meet
                  case rel => exact ⟨HOK, ⟨HF.out.1⟩, ⟨chg_drewN HF.out.2 _⟩, HBX.out⟩
            · have e1 : (lk == 1) = false := by simp [k1]
              by_cases k2 : lk = 2
              · have e2 : (lk == 2) = true := by simp [k2]
                have e3 : (lk == 3) = false := by simp [k2]
                have HKS := Aside0.mk (show ks = [] from List.eq_nil_of_length_eq_zero (by have := HAR.out; rw [k2, ← HM.out] at *; simp [arityP] at this; omega))
                have HR := Aside0.mk (mayF_var (v := v) (l := .mk lk ln ks) (d := d) (s := s) (by omega) ⟨k2, HKS.out⟩)
                clear k1 k2
                by_cases q0 : ln < 0
                · have hw := Aside0.mk (may_bad (HR.out.trans (if_pos (.inl q0))) (by decide))
                  go_upto_region 4 with (fail)
                  go_quiet ((go_at_call 77; exact Calls.quiet_of_same (arity_calls _ _)))
                  go_wp2
                  go_ret
                  rw [hw.out]
                  exact ⟨rfl, HF.out.1, chg_drewN HF.out.2 _⟩
                · by_cases q1 : v ≤ ln
                  · have hw := Aside0.mk (may_bad (HR.out.trans (if_pos (.inr q1))) (by decide))
                    go_upto_region 4 with (fail)
                    go_quiet ((go_at_call 77; exact Calls.quiet_of_same (arity_calls _ _)))
                    go_wp2
                    go_ret
                    rw [hw.out]
                    exact ⟨rfl, HF.out.1, chg_drewN HF.out.2 _⟩
                  · have HOK := Aside0.mk (HR.out.trans (if_neg (by simp only [Lv.num]; omega)))
                    go_upto_region 4 with (fail)
                    go_quiet ((go_at_call 77; exact Calls.quiet_of_same (arity_calls _ _)))
                    go_wp2
                    go_meet
                    case rel => exact ⟨HOK, ⟨HF.out.1⟩, ⟨chg_drewN HF.out.2 _⟩, HBX.out⟩
              · have e2 : (lk == 2) = false := by simp [k2]
                have HR := Aside0.mk (mayF_rest (v := v) (l := .mk lk ln ks) (d := d) (s := s) (by omega) (fun h => k2 h.1))
                by_cases k3 : lk = 3
                · have e3 : (lk == 3) = true := by simp [k3]
                  have HRR := Aside0.mk (show rightP (.mk lk ln ks) 1048576 0 = decide (1 ≤ ln ∧ ln ≤ 1048576) by rw [k3]; exact right_succ (by rw [← HM.out, HAR.out, k3]))
                  clear k1 k2 k3
                  by_cases q0 : ln < 1
                  · have hw := Aside0.mk (may_bad (HR.out.trans (if_pos (by rw [HRR.out]; exact decide_eq_false (by omega)))) (by decide))
                    go_upto_region 4 with (fail)
                    go_quiet ((go_at_call 77; exact Calls.quiet_of_same (arity_calls _ _)))
                    go_wp2
                    go_ret
                    rw [hw.out]
                    exact ⟨rfl, HF.out.1, chg_drewN HF.out.2 _⟩
                  · by_cases q1 : 1048576 < ln
                    · have hw := Aside0.mk (may_bad (HR.out.trans (if_pos (by rw [HRR.out]; exact decide_eq_false (by omega)))) (by decide))
                      go_upto_region 4 with (fail)
                      go_quiet ((go_at_call 77; exact Calls.quiet_of_same (arity_calls _ _)))
                      go_wp2
                      go_ret
                      rw [hw.out]
                      exact ⟨rfl, HF.out.1, chg_drewN HF.out.2 _⟩
                    · have HOK := Aside0.mk (HR.out.trans (if_neg (by rw [HRR.out, decide_eq_true (by omega)]; decide)))
                      go_upto_region 4 with (fail)
                      go_quiet ((go_at_call 77; exact Calls.quiet_of_same (arity_calls _ _)))
                      go_wp2
                      go_meet
                      case rel => exact ⟨HOK, ⟨HF.out.1⟩, ⟨chg_drewN HF.out.2 _⟩, HBX.out⟩
                · have e3 : (lk == 3) = false := by simp [k3]
                  have HOK := Aside0.mk (HR.out.trans (if_neg (by rw [right_else (n := ln) (ks := ks) (most := 1048576) (mostV := 0) (by rw [← HM.out]; exact HAR.out) k1 k2 k3]; decide)))
                  clear k1 k2 k3
                  go_upto_region 4 with (fail)
                  go_quiet ((go_at_call 77; exact Calls.quiet_of_same (arity_calls _ _)))
                  go_wp2
                  go_meet
                  case rel => exact ⟨HOK, ⟨HF.out.1⟩, ⟨chg_drewN HF.out.2 _⟩, HBX.out⟩
          case rest =>
            obtain ⟨HRT, HG0, HC0, hbox2⟩ := hcut
            have hz : (mayF v (.mk lk ln ks) d s).1 = 0 := by rw [HRT.out]
            have HE := Aside0.mk (walkP_go hz)
            rw [HRT.out] at HE
            simp only [Lv.kids] at HE
            have hs3 : s + 1 ≤ 100 := by omega
            clear hz
            go_wp2
            go_loopw [87] (fun i wr => ∃ (k : Nat) (s' : Int), i = .int .i64 k ∧ k ≤ m ∧ 0 ≤ s' ∧ s' ≤ 100 ∧ Aside0 (walkKs (mayF v) (ks.drop k) (d + 1) s' = walkP (mayF v) (.mk lk ln ks) d s) ∧ Aside0 (NumAt wr g s') ∧ Aside0 (Chg (fun k => k = g) w wr)) (fun i _ => m - (intOf i).toNat)
            case atStart => exact ⟨0, s + 1, rfl, Nat.zero_le _, by omega, by omega, ⟨HE.out.symm⟩, HG0, HC0⟩
            case round =>
              clear HE HG0 HC0 hbox2
              obtain ⟨k, s', rfl, hk, hs4, hs5, HE, HG1, HC1⟩ := hrel
              have HIN2 := Aside0.mk (LvIn.stay HIN.out (chg_below HC1.out hBg (Nat.le_of_lt (Nat.lt_of_le_of_lt hBg hglt))))
              by_cases hlt : k < m
              · have hlt2 : k < ks.length := by rw [← HM.out]; exact hlt
                obtain ⟨x, hx⟩ : ∃ x, ks[k]? = some x := ⟨_, List.getElem?_eq_getElem hlt2⟩
                obtain ⟨A', c', hcs, hin⟩ := HIN2.out.kid k x hx
                obtain ⟨ad, rfl, hc1, hc2, hc3⟩ := hcs.facts
                clear hcs
                have HX := Aside0.mk hx
                have HXIN := Aside0.mk hin
                clear hx hin hlt2
                have hglt2 := blk_lt HG1.out
                by_cases h2 : (walkP (mayF v) x (d + 1) s').1 = 0
                · have hsm := walkP_small (mayF_small v) x (d + 1) s' hs4 h2
                  have HK := Aside0.mk ((walkKs_go (r := ks.drop (k + 1)) h2).symm.trans ((congrArg (fun l => walkKs (mayF v) l (d + 1) s') (drop_kid HX.out)).symm.trans HE.out))
                  obtain ⟨e2, s2, hes⟩ : ∃ a b, walkP (mayF v) x (d + 1) s' = (a, b) := ⟨_, _, rfl⟩
                  have HV := Aside0.mk hes
                  rw [hes] at hsm h2 HK
                  simp only at hsm h2 HK
                  subst h2
                  have hs6 := hsm.1
                  have hs7 := hsm.2
                  clear hes hsm
                  go_wp2_with (go_at_call 103; go_must (refine (IH.out x (Nat.lt_of_lt_of_le (kid_small HX.out) (Nat.le_of_lt_succ hN)) A' c' (d + 1) s' g B _ (LvIn.stay HXIN.out ((Below.refl _ _).alloc (Nat.le_of_lt (Nat.lt_of_le_of_lt hBg hglt2)) _)) (HG1.out.alloc _) hBg hs4 hs5 (by omega) (by omega)).mono ?_; rintro e w2 ⟨rfl, hg1, hc1⟩; rw [HV.out] at hg1 ⊢; have HG2 := Aside0.mk hg1; have HC2 := Aside0.mk (chg_trans HC1.out (chg_trans (chg_alloc _ _ _) hc1)); clear hg1 hc1))
                  go_roundw
                  case rel => exact ⟨k + 1, s2, by go_num, by omega, hs6, hs7, HK, HG2, HC2⟩
                  case measure => (simp [intOf]; try omega)
                · have HK := Aside0.mk ((walkKs_stop (r := ks.drop (k + 1)) h2).symm.trans ((congrArg (fun l => walkKs (mayF v) l (d + 1) s') (drop_kid HX.out)).symm.trans HE.out))
                  obtain ⟨e2, s2, hes⟩ : ∃ a b, walkP (mayF v) x (d + 1) s' = (a, b) := ⟨_, _, rfl⟩
                  have HV := Aside0.mk hes
                  rw [hes] at h2
                  have h2' : (e2 != 0) = true := by simpa using h2
                  clear hes h2
                  go_wp2_with (go_at_call 103; go_must (refine (IH.out x (Nat.lt_of_lt_of_le (kid_small HX.out) (Nat.le_of_lt_succ hN)) A' c' (d + 1) s' g B _ (LvIn.stay HXIN.out ((Below.refl _ _).alloc (Nat.le_of_lt (Nat.lt_of_le_of_lt hBg hglt2)) _)) (HG1.out.alloc _) hBg hs4 hs5 (by omega) (by omega)).mono ?_; rintro e w2 ⟨rfl, hg1, hc1⟩; rw [HV.out] at hg1 ⊢; have HG2 := Aside0.mk hg1; have HC2 := Aside0.mk (chg_trans HC1.out (chg_trans (chg_alloc _ _ _) hc1)); clear hg1 hc1))
                  go_ret
                  rw [← HK.out, HV.out]
                  exact ⟨rfl, HG2.out, HC2.out⟩
              · obtain rfl : k = m := by omega
                have hlt' : decide ((k : Int) < k) = false := by simp
                have HW := Aside0.mk (show walkP (mayF v) (.mk lk ln ks) d s = (0, s') by rw [← HE.out, List.drop_of_length_le (by rw [← HM.out]; exact Nat.le_refl _), walkKs])
                go_wp2
                go_ret
                rw [HW.out]
                exact ⟨rfl, HG1.out, HC1.out⟩
        · have hbad : rightP (.mk lk ln ks) 1048576 0 = false := right_bad (by rw [← HM.out]; exact h3)
          have hw := Aside0.mk (may_bad ((mayF_rest (v := v) (l := .mk lk ln ks) (d := d) (s := s) (by omega) (fun h => h3 (by rw [HM.out, show lk = 2 from h.1, show ks = [] from h.2]; rfl))).trans (if_pos hbad)) (by decide))
          have h3' : ((m : Int) != arityP lk) = true := by simp [h3]
          clear hbad h3
          go_upto_region 4 with (fail)
          by_cases h4 : arityP lk < 0
          · go_quiet ((go_at_call 77; exact Calls.quiet_of_same (arity_calls _ _)))
            go_wp2
            go_ret
            rw [hw.out]
            exact ⟨rfl, HF.out.1, chg_drewN HF.out.2 _⟩
          · go_quiet ((go_at_call 77; exact Calls.quiet_of_same (arity_calls _ _)))
            go_wp2
            go_ret
            rw [hw.out]
            exact ⟨rfl, HF.out.1, chg_drewN HF.out.2 _⟩
end Go.Proofs.Ytcgkeolgflphiaa

/-! RefMay -/
namespace Go.Proofs.Ytcgkeolgflphiaa
open Go.RowKit Go.Proofs.YtcgkeolgflphiaaW.PrintWords Go.RegionInvYtcgkeolgflphiaa

set_option maxHeartbeats 4000000 in
theorem refMay_calls (A : Option Addr) (c : Nat) (l : Lv) (v : Int) (w : World) (hin : LvIn w w.heap.size A c l) :
    Calls Try.prog 85 #[lvV A c l, .int .i64 v] w fun e w' => e = .returned (.int .i64 (mayB v l)) ∧ Below w.heap.size w w' := by
  have HIN := Aside0.mk hin
  clear hin
  unfold lvV
  go_enter Try.func85, Try.ntmps85
  have hnew : NumAt ((w.alloc (.cells #[.int .i64 l.kind, .int .i64 l.num, .slice A l.kids.length c] 24 (0, 0))).alloc (.cells #[.int .i64 0] 3 (0, 0))) (w.heap.size + 1) 0 := by
    have := blk_new (w.alloc (.cells #[.int .i64 l.kind, .int .i64 l.num, .slice A l.kids.length c] 24 (0, 0))) (.cells #[.int .i64 0] 3 (0, 0))
    simpa [NumAt] using this
  have HNEW := Aside0.mk hnew
  clear hnew
  go_wp2_with (go_at_call 103; go_must (refine (ref_may v _ l (Nat.lt_succ_self _) A c 1 0 (w.heap.size + 1) w.heap.size _ (LvIn.stay HIN.out (below_alloc (below_alloc (Below.refl _ _) _) _)) HNEW.out (Nat.le_succ _) (by decide) (by decide) (by decide) (by decide)).mono ?_; rintro e w1 ⟨rfl, -, hc⟩; have HB := Aside0.mk (two_below hc); clear hc))
  go_ret
  exact ⟨rfl, HB.out⟩
end Go.Proofs.Ytcgkeolgflphiaa

/-! TName -/
namespace Go.Proofs.Ytcgkeolgflphiaa
open Go.RowKit Go.Proofs.YtcgkeolgflphiaaW.PrintWords Go.RegionInvYtcgkeolgflphiaa

/-- Byte i of a text. -/
def bt (s : ByteArray) (i : Nat) : Nat := (s.data.toList.getD i 0).toNat
theorem bt_get (s : ByteArray) (i : Nat) (h : i < s.size) : (s[i]'h).toNat = bt s i := by
  obtain ⟨⟨l⟩⟩ := s
  have hl : i < l.length := h
  unfold bt
  simp only [List.getD, List.getElem?_eq_getElem hl, Option.getD_some]
  rfl
def nchP (x : Nat) : Prop := 97 ≤ x ∧ x ≤ 122 ∨ 48 ≤ x ∧ x ≤ 57 ∨ x = 95 ∨ x = 46
instance (x : Nat) : Decidable (nchP x) := by unfold nchP; infer_instance
/-- May it be a name? -/
def NameP (s : ByteArray) : Prop := (1 ≤ s.size ∧ s.size ≤ 32) ∧ (97 ≤ bt s 0 ∧ bt s 0 ≤ 122) ∧ ∀ i, i < s.size → nchP (bt s i)
instance (s : ByteArray) : Decidable (NameP s) := by unfold NameP; infer_instance
def nameB (s : ByteArray) : Bool := decide (NameP s)
theorem name_no {s : ByteArray} (h : ¬ NameP s) : nameB s = false := decide_eq_false h
theorem name_yes {s : ByteArray} (h : NameP s) : nameB s = true := decide_eq_true h
set_option maxHeartbeats 4000000 in
theorem name_calls (s : ByteArray) (w : World) :
    Calls Try.prog 33 #[.string s] w fun e w' => e = .returned (.bool (nameB s)) ∧ Below w.heap.size w w' := by
  go_enter Try.func33, Try.ntmps33
  by_cases h1 : s.size < 1
  · have HR := Aside0.mk (name_no (s := s) (fun h => by have := h.1.1; omega))
    go_wp2
    go_ret
    rw [HR.out]
    exact ⟨rfl, Below.refl _ _⟩
  by_cases h2 : 32 < s.size
  · have HR := Aside0.mk (name_no (s := s) (fun h => by have := h.1.2; omega))
    go_wp2
    go_ret
    rw [HR.out]
    exact ⟨rfl, Below.refl _ _⟩
  have h0 : 0 < s.size := by omega
  have hb0 := bt_get s 0 h0
  obtain ⟨x0, hx0⟩ : ∃ x0, x0 = bt s 0 := ⟨_, rfl⟩
  rw [← hx0] at hb0
  have HX0 := Aside0.mk hx0
  clear hx0
  by_cases h3 : x0 < 97
  · have HR := Aside0.mk (name_no (s := s) (fun h => by have := h.2.1.1; have := HX0.out; omega))
    go_wp2
    go_ret
    rw [HR.out]
    exact ⟨rfl, Below.refl _ _⟩
  by_cases h4 : 122 < x0
  · have HR := Aside0.mk (name_no (s := s) (fun h => by have := h.2.1.2; have := HX0.out; omega))
    go_wp2
    go_ret
    rw [HR.out]
    exact ⟨rfl, Below.refl _ _⟩
  go_wp2
  go_loopw [25] (fun i wr => ∃ k : Nat, i = .int .i64 k ∧ k ≤ s.size ∧ Aside0 (∀ j, j < k → nchP (bt s j)) ∧ Aside0 (Below w.heap.size w wr)) (fun i _ => s.size - (intOf i).toNat)
  case atStart => exact ⟨0, rfl, Nat.zero_le _, ⟨fun j h => by omega⟩, ⟨Below.refl _ _⟩⟩
  case round =>
    obtain ⟨k, rfl, hk, HK, HBW⟩ := hrel
    by_cases hlt : k < s.size
    · have hbk := bt_get s k hlt
      obtain ⟨x, hx⟩ : ∃ x, x = bt s k := ⟨_, rfl⟩
      rw [← hx] at hbk
      have HX := Aside0.mk hx
      have hxx : x < 256 := by rw [← hbk]; exact (s[k]'hlt).toNat_lt
      clear hx
      by_cases hn : nchP x
      · have HN := Aside0.mk (show ∀ j, j < k + 1 → nchP (bt s j) from fun j hj => by
          by_cases h : j < k
          · exact HK.out j h
          · have : j = k := by omega
            rw [this, ← HX.out]; exact hn)
        unfold nchP at hn
        rcases hn with ⟨q1, q2⟩ | ⟨q1, q2⟩ | q1 | q1
        · have b1 : ((x : Int) != 95) = true := by simp; omega
          have b2 : ((x : Int) != 46) = true := by simp; omega
          go_wp2
          go_roundw
          case rel => exact ⟨k + 1, by go_num, by omega, HN, HBW⟩
          case measure => (simp [intOf]; try omega)
        · have b1 : ((x : Int) != 95) = true := by simp; omega
          have b2 : ((x : Int) != 46) = true := by simp; omega
          have q3 : x < 97 := by omega
          go_wp2
          go_roundw
          case rel => exact ⟨k + 1, by go_num, by omega, HN, HBW⟩
          case measure => (simp [intOf]; try omega)
        · have b1 : ((x : Int) != 95) = false := by simp; omega
          have q3 : x < 97 := by omega
          have q4 : 57 < x := by omega
          have b2 : ((x : Int) != 46) = true := by simp; omega
          clear q1
          go_wp2
          go_roundw
          case rel => exact ⟨k + 1, by go_num, by omega, HN, HBW⟩
          case measure => (simp [intOf]; try omega)
        · have b1 : ((x : Int) != 95) = true := by simp; omega
          have b2 : ((x : Int) != 46) = false := by simp; omega
          have q3 : x < 97 := by omega
          have q4 : (x : Int) < 48 := by omega
          have q5 : decide ((x : Int) < 48) = true := by simpa using q4
          clear q1
          go_wp2
          go_roundw
          case rel => exact ⟨k + 1, by go_num, by omega, HN, HBW⟩
          case measure => (simp [intOf]; try omega)
      · have HR := Aside0.mk (name_no (s := s) (fun h => hn (by rw [HX.out]; exact h.2.2 k hlt)))
        unfold nchP at hn
        have b1 : ((x : Int) != 95) = true := by simp; omega
        have b2 : ((x : Int) != 46) = true := by simp; omega
        have hc : x < 48 ∨ 57 < x ∧ x < 97 ∨ 122 < x := by omega
        clear hn
        rcases hc with q1 | ⟨q1, q2⟩ | q1
        all_goals go_wp2
        all_goals go_ret
        all_goals rw [HR.out]
        all_goals exact ⟨rfl, HBW.out⟩
    · have hks : k = s.size := by omega
      have HR := Aside0.mk (name_yes (s := s) ⟨⟨by omega, by omega⟩, ⟨by have := HX0.out; omega, by have := HX0.out; omega⟩, fun i hi => HK.out i (by omega)⟩)
      clear hks
      go_wp2
      go_ret
      rw [HR.out]
      exact ⟨rfl, HBW.out⟩
set_option maxHeartbeats 4000000 in
theorem refname_calls (s : ByteArray) (w : World) (hs : s.size ≤ 140737488355328) :
    Calls Try.prog 36 #[.string s] w fun e w' => e = .returned (.bool (nameB s)) ∧ Below w.heap.size w w' := by
  go_enter Try.func36, Try.ntmps36
  go_wp2
  go_loopw [8] (fun i wr => ∃ k : Nat, i = .int .i64 k ∧ k ≤ s.size ∧ Aside0 ((∀ j, j < k → nchP (bt s j)) ∧ (0 < k → 97 ≤ bt s 0 ∧ bt s 0 ≤ 122)) ∧ Aside0 (Below w.heap.size w wr)) (fun i _ => s.size - (intOf i).toNat)
  case atStart => exact ⟨0, rfl, Nat.zero_le _, ⟨fun j h => by omega, fun h => by omega⟩, ⟨Below.refl _ _⟩⟩
  case round =>
    obtain ⟨k, rfl, hk, HK, HBW⟩ := hrel
    by_cases hlt : k < s.size
    · have hbk := bt_get s k hlt
      obtain ⟨x, hx⟩ : ∃ x, x = bt s k := ⟨_, rfl⟩
      rw [← hx] at hbk
      have HX := Aside0.mk hx
      have hxx : x < 256 := by rw [← hbk]; exact (s[k]'hlt).toNat_lt
      clear hx
      by_cases hn : nchP x ∧ (k = 0 → 97 ≤ x ∧ x ≤ 122)
      · have HN := Aside0.mk (show (∀ j, j < k + 1 → nchP (bt s j)) ∧ (0 < k + 1 → 97 ≤ bt s 0 ∧ bt s 0 ≤ 122) from ⟨fun j hj => by
          by_cases h : j < k
          · exact HK.out.1 j h
          · have : j = k := by omega
            rw [this, ← HX.out]; exact hn.1, fun _ => by
          by_cases h : 0 < k
          · exact HK.out.2 h
          · have h0 : k = 0 := by omega
            have := hn.2 h0
            rw [HX.out, h0] at this
            exact this⟩)
        unfold nchP at hn
        rcases hn with ⟨q1, q2⟩ | ⟨q1, q2⟩ | q1 | q1
        · have b1 : ((x : Int) != 95) = true := by simp; omega
          have b2 : ((x : Int) != 46) = true := by simp; omega
          go_wp2
          go_roundw
          case rel => exact ⟨k + 1, by go_num, by omega, HN, HBW⟩
          case measure => (simp [intOf]; try omega)
        · have b1 : ((x : Int) != 95) = true := by simp; omega
          have b2 : ((x : Int) != 46) = true := by simp; omega
          have q3 : x < 97 := by omega
          go_wp2
          go_roundw
          case rel => exact ⟨k + 1, by go_num, by omega, HN, HBW⟩
          case measure => (simp [intOf]; try omega)
        · have b1 : ((x : Int) != 95) = false := by simp; omega
          have q3 : x < 97 := by omega
          have q4 : 57 < x := by omega
          have b2 : ((x : Int) != 46) = true := by simp; omega
          clear q1
          go_wp2
          go_roundw
          case rel => exact ⟨k + 1, by go_num, by omega, HN, HBW⟩
          case measure => (simp [intOf]; try omega)
        · have b1 : ((x : Int) != 95) = true := by simp; omega
          have b2 : ((x : Int) != 46) = false := by simp; omega
          have q3 : x < 97 := by omega
          have q4 : (x : Int) < 48 := by omega
          have q5 : decide ((x : Int) < 48) = true := by simpa using q4
          clear q1
          go_wp2
          go_roundw
          case rel => exact ⟨k + 1, by go_num, by omega, HN, HBW⟩
          case measure => (simp [intOf]; try omega)
      · have HR := Aside0.mk (name_no (s := s) (fun h => hn ⟨by rw [HX.out]; exact h.2.2 k hlt, fun h0 => by subst h0; rw [HX.out]; exact h.2.1⟩))
        unfold nchP at hn
        by_cases ha : 97 ≤ x ∧ x ≤ 122
        · exact absurd ⟨.inl ha, fun _ => ha⟩ hn
        · have ha' : x < 97 ∨ 122 < x := by omega
          by_cases hz : k = 0
          · have kb : ((k : Int) == 0) = true := by simp [hz]
            clear hn ha hz
            rcases ha' with q1 | q1
            all_goals go_wp2
            all_goals first
              | (go_ret; rw [HR.out]; exact ⟨rfl, HBW.out⟩)
              | (exfalso; simp_all; omega)
          · have kb : ((k : Int) == 0) = false := by simp [hz]
            have b1 : ((x : Int) != 95) = true := by simp; omega
            have b2 : ((x : Int) != 46) = true := by simp; omega
            have hc : x < 48 ∨ 57 < x ∧ x < 97 ∨ 122 < x := by omega
            clear hn ha ha' hz
            rcases hc with q1 | ⟨q1, q2⟩ | q1
            all_goals go_wp2
            all_goals first
              | (go_ret; rw [HR.out]; exact ⟨rfl, HBW.out⟩)
              | (exfalso; simp_all; omega)
    · have hks : k = s.size := by omega
      have HR := Aside0.mk (show nameB s = decide (1 ≤ s.size ∧ s.size ≤ 32) by
        unfold nameB
        congr 1
        apply propext
        constructor
        · exact fun h => h.1
        · exact fun h => ⟨h, HK.out.2 (by omega), fun i hi => HK.out.1 i (by omega)⟩)
      clear hks
      by_cases q1 : 1 ≤ s.size
      · by_cases q2 : s.size ≤ 32
        · have HE := Aside0.mk (HR.out.trans (decide_eq_true ⟨q1, q2⟩))
          go_wp2
          go_ret
          rw [HE.out]
          refine ⟨?_, HBW.out⟩
          simp
          try omega
        · have HE := Aside0.mk (HR.out.trans (decide_eq_false (fun h => q2 h.2)))
          go_wp2
          go_ret
          rw [HE.out]
          refine ⟨?_, HBW.out⟩
          simp
          try omega
      · have HE := Aside0.mk (HR.out.trans (decide_eq_false (fun h => q1 h.1)))
        go_wp2
        go_ret
        rw [HE.out]
        exact ⟨rfl, HBW.out⟩
end Go.Proofs.Ytcgkeolgflphiaa

/-! TMay -/
namespace Go.Proofs.Ytcgkeolgflphiaa
open Go.RowKit Go.Proofs.YtcgkeolgflphiaaW.PrintWords Go.RegionInvYtcgkeolgflphiaa

/-- The first level that may not be; 0: all may. -/
def mayLs (v : Int) : List Lv → Int
  | [] => 0
  | l :: r => if mayB v l = 0 then mayLs v r else mayB v l
theorem mayLs_go {v : Int} {l : Lv} {r : List Lv} (h : mayB v l = 0) : mayLs v (l :: r) = mayLs v r := by rw [mayLs, if_pos h]
theorem mayLs_stop {v : Int} {l : Lv} {r : List Lv} (h : mayB v l ≠ 0) : mayLs v (l :: r) = mayB v l := by rw [mayLs, if_neg h]
/-- May a node be? -/
def mnP (v : Int) (t : Tm) : Int :=
  if (t.kids.length : Int) ≠ arZ t.kind then 1 else if t.kind = 1 ∧ (t.num < 0 ∨ 1048576 < t.num) then 1 else
  if t.kind = 2 then mayB v t.lv else if t.kind ≠ 7 then 0 else if nameB t.name = false then 8 else if 6 < t.ls.length then 2 else mayLs v t.ls
theorem mn_kids {v : Int} {t : Tm} (h : (t.kids.length : Int) ≠ arZ t.kind) : mnP v t = 1 := if_pos h
theorem mn_num {v : Int} {t : Tm} (h0 : (t.kids.length : Int) = arZ t.kind) (h : t.kind = 1 ∧ (t.num < 0 ∨ 1048576 < t.num)) : mnP v t = 1 := by
  unfold mnP; rw [if_neg (fun h => h h0), if_pos h]
theorem mn_sort {v : Int} {t : Tm} (h0 : (t.kids.length : Int) = arZ t.kind) (h : t.kind = 2) : mnP v t = mayB v t.lv := by
  unfold mnP; rw [if_neg (fun h => h h0), if_neg (fun h' => by have := h'.1; omega), if_pos h]
theorem mn_else {v : Int} {t : Tm} (h0 : (t.kids.length : Int) = arZ t.kind) (h1 : ¬ (t.kind = 1 ∧ (t.num < 0 ∨ 1048576 < t.num))) (h2 : t.kind ≠ 2) (h7 : t.kind ≠ 7) : mnP v t = 0 := by
  unfold mnP; rw [if_neg (fun h => h h0), if_neg h1, if_neg h2, if_pos h7]
theorem mn_const {v : Int} {t : Tm} (h0 : (t.kids.length : Int) = arZ t.kind) (h : t.kind = 7) : mnP v t = if nameB t.name = false then 8 else if 6 < t.ls.length then 2 else mayLs v t.ls := by
  unfold mnP; rw [if_neg (fun h => h h0), if_neg (fun h' => by have := h'.1; omega), if_neg (by omega), if_neg (by omega)]
theorem mn_arity {v : Int} {t : Tm} (h : mnP v t = 0) : (t.kids.length : Int) = arZ t.kind := by
  by_cases h1 : (t.kids.length : Int) = arZ t.kind
  · exact h1
  · rw [mn_kids h1] at h; exact absurd h (by decide)
theorem mn_nK {v : Int} {t : Tm} (h : mnP v t = 0) : nK t = t.kids.length := by
  have h1 := mn_arity h
  unfold nK
  rw [if_neg (by omega)]
  omega
theorem blw_drewN {B : Nat} {a w : World} (h : Below B a w) (n : Nat) : Below B a (w.drewN n) := h.trans ⟨rfl, rfl, rfl, Nat.le_refl _, fun _ _ => rfl⟩
theorem LvIn.stay' {w : World} {A : Option Addr} {c : Nat} {l : Lv} {o : Obj} (h : LvIn w w.heap.size A c l) : LvIn (w.alloc o) (w.alloc o).heap.size A c l := (h.stay ((Below.refl _ _).alloc (Nat.le_refl _) o)).all
/-- May, at arguments of one's own. -/
theorem may_at (A : Option Addr) (c m : Nat) (k n : Int) (l : Lv) (v : Int) (w : World) (hk : l.kind = k) (hn : l.num = n) (hm : l.kids.length = m) (hin : LvIn w w.heap.size A c l) :
    Calls Try.prog 84 #[.agg #[.int .i64 k, .int .i64 n, .slice A m c], .int .i64 v] w fun e w' => e = .returned (.int .i64 (mayB v l)) ∧ Below w.heap.size w w' := by
  subst hk; subst hn; subst hm
  exact may_calls A c l v w hin
set_option maxRecDepth 100000 in
set_option maxHeartbeats 8000000 in
theorem maynode_calls (t : Tm) (p : Pl) (v : Int) (w : World) (hin : TmIn w w.heap.size p t) :
    Calls Try.prog 63 #[tmV p t, .int .i64 v] w fun e w' => e = .returned (.int .i64 (mnP v t)) ∧ Below w.heap.size w w' := by
  obtain ⟨W, hW⟩ : ∃ W, W = w.alloc (tmO p t) := ⟨_, rfl⟩
  have hb : Below w.heap.size w W := by rw [hW]; exact below_alloc (Below.refl _ _) _
  have HX := Aside0.mk (show W.heap[w.heap.size]? = some (tmO p t) by rw [hW]; exact blk_new _ _)
  have hin1 := hin.stay hb
  have HB := Aside0.mk hb
  have HLV := Aside0.mk (hin1.lv.all)
  have HLS := Aside0.mk (hin1.ls.all)
  have hlen := hin1.len
  have hll := hin1.ls.len
  clear hin hb hin1
  obtain ⟨pA, pc, pB, pd, pK, pe⟩ := p
  obtain ⟨tk, tn, nm, lv, ls, ks⟩ := t
  unfold tmV
  dsimp only [Tm.kind, Tm.num, Tm.name, Tm.lv, Tm.ls, Tm.kids] at hlen hll HX HLV HLS ⊢
  simp only [Lv.kids] at hll
  obtain ⟨c0, c1, c2, c3, c4, c5, c6, c7⟩ := row8 HX.out
  dsimp only [Tm.kind, Tm.num, Tm.name, Tm.lv, Tm.ls, Tm.kids] at c0 c1 c2 c3 c4 c5 c6 c7
  obtain ⟨lk, hlk⟩ : ∃ x, lv.kind = x := ⟨_, rfl⟩
  obtain ⟨ln, hln⟩ : ∃ x, lv.num = x := ⟨_, rfl⟩
  obtain ⟨lm, hlm⟩ : ∃ x, lv.kids.length = x := ⟨_, rfl⟩
  obtain ⟨L, hL⟩ : ∃ x, ks.length = x := ⟨_, rfl⟩
  obtain ⟨M, hM⟩ : ∃ x, ls.length = x := ⟨_, rfl⟩
  rw [show tmO ⟨pA, pc, pB, pd, pK, pe⟩ (.mk tk tn nm lv ls ks) = .cells #[.int .i64 tk, .int .i64 tn, .string nm, .int .i64 lv.kind, .int .i64 lv.num, .slice pA lv.kids.length pc, .slice pB ls.length pd, .slice pK ks.length pe] 27 (0, 0) from rfl] at hW
  rw [hlk, hln, hlm, hM, hL] at hW ⊢
  rw [hlk] at c3
  rw [hln] at c4
  rw [hlm] at c5
  rw [hM] at c6
  rw [hL] at c7
  rw [hL] at hlen
  rw [hM] at hll
  have HLK := Aside0.mk hlk
  have HLN := Aside0.mk hln
  have HLM := Aside0.mk hlm
  have HL := Aside0.mk hL
  have HM := Aside0.mk hM
  clear hlk hln hlm hL hM
  have hM9 : M ≤ 9223372036854775807 := by omega
  have hL9 : L ≤ 9223372036854775807 := by omega
  clear hlen hll
  go_enter Try.func63, Try.ntmps63
  go_upto_region 1 with (fail)
  rw [← hW]
  clear hW
  obtain ⟨ar, har⟩ : ∃ x, x = arZ tk := ⟨_, rfl⟩
  have HAR := Aside0.mk har
  have HAC := Aside0.mk (show ∀ w, Calls Try.prog 83 #[.int .i64 tk] w fun e w' => e = .returned (.int .i64 ar) ∧ w' = w from fun w => by rw [har]; exact tar_calls _ _)
  clear har
  by_cases h0 : (L : Int) = ar
  · have h0' : ((L : Int) != ar) = false := by simp [h0]
    have H0 := Aside0.mk (show (Tm.kids (.mk tk tn nm lv ls ks)).length = arZ (Tm.kind (.mk tk tn nm lv ls ks)) by dsimp only [Tm.kids, Tm.kind]; rw [HL.out, h0, HAR.out])
    clear h0
    by_cases k1 : tk = 1 ∧ (tn < 0 ∨ 1048576 < tn)
    · have HR := Aside0.mk (mn_num (v := v) H0.out k1)
      obtain ⟨k1, kn⟩ := k1
      have e1 : (tk == 1) = true := by simp [k1]
      clear k1
      by_cases hn0 : tn < 0
      · go_quiet ((go_at_call 83; exact Calls.quiet_of_same (HAC.out _)))
        go_wp2
        go_ret
        rw [HR.out]
        refine ⟨rfl, ?_⟩
        exact (blw_drewN HB.out _)
      · have hn1 : 1048576 < tn := by omega
        go_quiet ((go_at_call 83; exact Calls.quiet_of_same (HAC.out _)))
        go_wp2
        go_ret
        rw [HR.out]
        refine ⟨rfl, ?_⟩
        exact (blw_drewN HB.out _)
    · by_cases k2 : tk = 2
      · have HR := Aside0.mk (mn_sort (v := v) H0.out k2)
        have e1 : (tk == 1) = false := by simp [k2]
        have e2 : (tk == 2) = true := by simp [k2]
        clear k1 k2
        go_quiet ((go_at_call 83; exact Calls.quiet_of_same (HAC.out _)))
        go_wp2_with (go_at_call 84; go_must (refine (may_at pA pc lm lk ln lv v _ HLK.out HLN.out HLM.out (by exact LvS.same HLV.out (fun _ _ _ => rfl))).mono ?_; rintro e w1 ⟨rfl, hb⟩; have HB1 := Aside0.mk hb; clear hb))
        go_ret
        rw [HR.out]
        refine ⟨rfl, ?_⟩
        refine Below.trans ?_ (HB1.out.mono HB.out.size)
        exact (blw_drewN HB.out _)
      · have e2 : (tk == 2) = false := by simp [k2]
        by_cases k7 : tk = 7
        · have e1 : (tk == 1) = false := by simp [k7]
          have e7 : (tk != 7) = false := by simp [k7]
          have HC := Aside0.mk (show mnP v (.mk tk tn nm lv ls ks) = if nameB nm = false then 8 else if 6 < ls.length then 2 else mayLs v ls from mn_const H0.out k7)
          clear k1 k2 k7
          cases hnm : nameB nm with
          | false =>
            have HR := Aside0.mk (HC.out.trans (if_pos hnm))
            have HNM := Aside0.mk hnm
            clear hnm
            go_quiet ((go_at_call 83; exact Calls.quiet_of_same (HAC.out _)))
            go_wp2_with (go_at_call 33; go_must (refine (name_calls nm _).mono ?_; rintro e w1 ⟨rfl, hb⟩; rw [HNM.out]; have HB1 := Aside0.mk hb; clear hb))
            go_ret
            rw [HR.out]
            refine ⟨rfl, ?_⟩
            refine Below.trans ?_ (HB1.out.mono HB.out.size)
            exact (blw_drewN HB.out _)
          | true =>
            have HNM := Aside0.mk hnm
            have HC2 := Aside0.mk (HC.out.trans (if_neg (by rw [hnm]; decide)))
            clear hnm
            by_cases h6 : 6 < M
            · have HR := Aside0.mk (HC2.out.trans (if_pos (by rw [HM.out]; exact h6)))
              have h6' : (6 : Int) < M := by omega
              go_quiet ((go_at_call 83; exact Calls.quiet_of_same (HAC.out _)))
              go_wp2_with (go_at_call 33; go_must (refine (name_calls nm _).mono ?_; rintro e w1 ⟨rfl, hb⟩; rw [HNM.out]; have c6 := (hb.cell (p := ⟨w.heap.size, 6, none⟩) (blk_lt HX.out)).trans c6; have HB1 := Aside0.mk hb; clear hb))
              go_ret
              rw [HR.out]
              refine ⟨rfl, ?_⟩
              refine Below.trans ?_ (HB1.out.mono HB.out.size)
              exact (blw_drewN HB.out _)
            · have HR := Aside0.mk (HC2.out.trans (if_neg (by rw [HM.out]; exact h6)))
              have h6' : ¬ ((6 : Int) < M) := by omega
              clear h6
              go_quiet ((go_at_call 83; exact Calls.quiet_of_same (HAC.out _)))
              go_wp2_with (go_at_call 33; go_must (refine (name_calls nm _).mono ?_; rintro e w1 ⟨rfl, hb⟩; rw [HNM.out]; have c6 := (hb.cell (p := ⟨w.heap.size, 6, none⟩) (blk_lt HX.out)).trans c6; have HLS1 := Aside0.mk (LvS.same HLS.out (w' := w1) (fun k _ hk => hb.block k hk)); have HB1 := Aside0.mk hb; clear hb))
              have HB2 := Aside0.mk (show Below w.heap.size w w1 from Below.trans ((blw_drewN HB.out _)) (HB1.out.mono HB.out.size))
              go_loopw [55] (fun i wr => ∃ k : Nat, i = .int .i64 k ∧ k ≤ M ∧ Aside0 (mayLs v (ls.drop k) = mayLs v ls) ∧ Aside0 (Below w1.heap.size w1 wr)) (fun i _ => M - (intOf i).toNat)
              case atStart => exact ⟨0, rfl, Nat.zero_le _, ⟨rfl⟩, ⟨Below.refl _ _⟩⟩
              case round =>
                obtain ⟨k, rfl, hk, HK, HBW⟩ := hrel
                by_cases hlt : k < M
                · have hlt2 : k < ls.length := by rw [HM.out]; exact hlt
                  obtain ⟨x, hx⟩ : ∃ x, ls[k]? = some x := ⟨_, List.getElem?_eq_getElem hlt2⟩
                  obtain ⟨A', c', hcs, hin⟩ := (LvS.same HLS1.out (w' := wr) (fun j hj _ => HBW.out.block j (Nat.lt_of_lt_of_le hj HB1.out.size))).kid k x hx
                  obtain ⟨ad, rfl, d1, d2, d3⟩ := hcs.facts
                  have HX := Aside0.mk hx
                  have HXIN := Aside0.mk hin.all
                  obtain ⟨xk, hxk⟩ : ∃ y, x.kind = y := ⟨_, rfl⟩
                  obtain ⟨xn, hxn⟩ : ∃ y, x.num = y := ⟨_, rfl⟩
                  obtain ⟨xm, hxm⟩ : ∃ y, x.kids.length = y := ⟨_, rfl⟩
                  rw [hxk] at d1
                  rw [hxn] at d2
                  rw [hxm] at d3
                  have HXK := Aside0.mk hxk
                  have HXN := Aside0.mk hxn
                  have HXM := Aside0.mk hxm
                  clear hcs hx hin hlt2 hxk hxn hxm
                  by_cases h2 : mayB v x = 0
                  · have HK2 := Aside0.mk (show mayLs v (ls.drop (k + 1)) = mayLs v ls by rw [← HK.out, drop_kid HX.out, mayLs_go h2])
                    have HV := Aside0.mk h2
                    clear h2
                    go_wp2_with (go_at_call 84; go_must (refine (may_at A' c' xm xk xn x v _ HXK.out HXN.out HXM.out (by exact LvIn.stay' HXIN.out)).mono ?_; rintro e w2 ⟨rfl, hb⟩; rw [HV.out]; have HB3 := Aside0.mk hb; clear hb))
                    go_roundw
                    case rel => exact ⟨k + 1, by go_num, by omega, HK2, ⟨Below.trans (Below.alloc HBW.out HBW.out.size _) (HB3.out.mono (by simp; have := HBW.out.size; omega))⟩⟩
                    case measure => (simp [intOf]; try omega)
                  · have HV := Aside0.mk (show mayLs v ls = mayB v x by rw [← HK.out, drop_kid HX.out, mayLs_stop h2])
                    obtain ⟨e2, he2⟩ : ∃ e2, e2 = mayB v x := ⟨_, rfl⟩
                    rw [← he2] at h2
                    have h2' : (e2 != 0) = true := by simpa using h2
                    have HE2 := Aside0.mk he2
                    clear h2 he2
                    go_wp2_with (go_at_call 84; go_must (refine (may_at A' c' xm xk xn x v _ HXK.out HXN.out HXM.out (by exact LvIn.stay' HXIN.out)).mono ?_; rintro e w2 ⟨rfl, hb⟩; rw [← HE2.out]; have HB3 := Aside0.mk hb; clear hb))
                    go_ret
                    rw [HR.out, HV.out, HE2.out]
                    exact ⟨rfl, Below.trans HB2.out ((Below.trans (Below.alloc HBW.out HBW.out.size _) (HB3.out.mono (by simp; have := HBW.out.size; omega))).mono HB2.out.size)⟩
                · obtain rfl : k = M := by omega
                  have hlt' : decide ((k : Int) < k) = false := by simp
                  have HZ := Aside0.mk (show mayLs v ls = 0 by rw [← HK.out, List.drop_of_length_le (by rw [HM.out]; exact Nat.le_refl _), mayLs])
                  go_wp2
                  go_ret
                  rw [HR.out, HZ.out]
                  exact ⟨rfl, Below.trans HB2.out (HBW.out.mono HB2.out.size)⟩
        · have e7 : (tk != 7) = true := by simp [k7]
          have HR := Aside0.mk (mn_else (v := v) H0.out k1 k2 k7)
          by_cases k1' : tk = 1
          · have e1 : (tk == 1) = true := by simp [k1']
            have q1 : 0 ≤ tn := by omega
            have q2 : tn ≤ 1048576 := by omega
            clear k1 k2 k7 k1'
            go_quiet ((go_at_call 83; exact Calls.quiet_of_same (HAC.out _)))
            go_wp2
            go_ret
            rw [HR.out]
            refine ⟨rfl, ?_⟩
            exact (blw_drewN HB.out _)
          · have e1 : (tk == 1) = false := by simp [k1']
            clear k1 k2 k7 k1'
            go_quiet ((go_at_call 83; exact Calls.quiet_of_same (HAC.out _)))
            go_wp2
            go_ret
            rw [HR.out]
            refine ⟨rfl, ?_⟩
            exact (blw_drewN HB.out _)
  · have h0' : ((L : Int) != ar) = true := by simp [h0]
    have HR := Aside0.mk (mn_kids (v := v) (t := .mk tk tn nm lv ls ks) (show (ks.length : Int) ≠ arZ tk by rw [HL.out, ← HAR.out]; exact h0))
    clear h0
    go_quiet ((go_at_call 83; exact Calls.quiet_of_same (HAC.out _)))
    go_wp2
    go_ret
    rw [HR.out]
    refine ⟨rfl, ?_⟩
    exact (blw_drewN HB.out _)
end Go.Proofs.Ytcgkeolgflphiaa

/-! TMayC -/
namespace Go.Proofs.Ytcgkeolgflphiaa
open Go.RowKit Go.Proofs.YtcgkeolgflphiaaW.PrintWords Go.RegionInvYtcgkeolgflphiaa

def ErrAt (w : World) (g : Nat) (n : Int) : Prop := w.heap[g]? = some (.cells #[.int .i64 n] 32 (0, 0))
theorem ErrAt.cell {w : World} {g : Nat} {n : Int} (h : ErrAt w g n) : w.cell? ⟨g, 0, none⟩ = some (.int .i64 n) := by rw [cell_of_row _ _ _ _ _ _ h]; rfl
theorem ErrAt.set {w : World} {g : Nat} {n : Int} (h : ErrAt w g n) (m : Int) : ErrAt (w.setCell ⟨g, 0, none⟩ (.int .i64 m)) g m := blk_put h 0 _ rfl
def mtF (v : Int) (t : Tm) (d _ : Int) (s : Int × Int) : Bool × (Int × Int) :=
  if 64 < d ∨ 400 < s.1 + 1 then (false, (s.1 + 1, 2)) else (decide (mnP v t = 0), (s.1 + 1, mnP v t))
theorem mtF_long {v : Int} {t : Tm} {d b : Int} {s : Int × Int} (h : 64 < d ∨ 400 < s.1 + 1) : mtF v t d b s = (false, (s.1 + 1, 2)) := if_pos h
theorem mtF_node {v : Int} {t : Tm} {d b : Int} {s : Int × Int} (h : ¬ (64 < d ∨ 400 < s.1 + 1)) : mtF v t d b s = (decide (mnP v t = 0), (s.1 + 1, mnP v t)) := if_neg h
def RepY (g1 g2 g3 : Nat) (v : Int) (s : Int × Int) (w : World) : Prop := NumAt w g1 s.1 ∧ ErrAt w g2 s.2 ∧ NumAt w g3 v
def InvY (s : Int × Int) : Prop := 0 ≤ s.1 ∧ s.1 ≤ 400
def GY (g1 g2 g3 : Nat) (k : Nat) : Prop := k = g1 ∨ k = g2 ∨ k = g3
theorem mtF_ok {v : Int} {t : Tm} {d b : Int} {s : Int × Int} (hd : 0 ≤ d ∧ d ≤ 65) (hI : InvY s) (h : (mtF v t d b s).1 = true) : InvY (mtF v t d b s).2 ∧ ∀ _ : Fin (nK t), 0 ≤ d + 1 ∧ d + 1 ≤ 65 := by
  by_cases h1 : 64 < d ∨ 400 < s.1 + 1
  · rw [mtF_long h1] at h; cases h
  · rw [mtF_node h1] at h ⊢
    obtain ⟨i1, i2⟩ := hI
    unfold InvY
    simp only
    exact ⟨by omega, fun _ => by omega⟩
/-- May a term be, with so many level variables? -/
def mayT (v : Int) (t : Tm) : Int := (foldP (mtF v) t 1 0 (0, 0)).2.2
theorem maynode_at (t : Tm) (p : Pl) (v : Int) (w W : World) (B : Nat) (a : Value) (ha : a = tmV p t) (hin : TmIn W B p t) (hb : Below B W w) :
    Calls Try.prog 63 #[a, .int .i64 v] w fun e w' => e = .returned (.int .i64 (mnP v t)) ∧ Below w.heap.size w w' := by
  subst ha
  exact maynode_calls t p v w (TmS.all (hin.stay hb))
set_option maxHeartbeats 4000000 in
theorem mat1_calls (t : Tm) (p : Pl) (d b v : Int) (s : Int × Int) (w : World) (g1 g2 g3 B : Nat) (h12 : g1 ≠ g2) (h13 : g1 ≠ g3) (h23 : g2 ≠ g3) (hB1 : B ≤ g1) (hB2 : B ≤ g2) (_hd0 : 0 ≤ d) (_hd1 : d ≤ 65) (hI : InvY s) (hin : TmIn w B p t) (hR : RepY g1 g2 g3 v s w) :
    Calls Try.prog 62 #[tmV p t, .int .i64 d, .int .i64 b, .pointer (some ⟨g1, 0, none⟩), .pointer (some ⟨g2, 0, none⟩), .pointer (some ⟨g3, 0, none⟩)] w (FoldPost (RepY g1 g2 g3 v) (GY g1 g2 g3) w (mtF v t d b s)) := by
  obtain ⟨n, er⟩ := s
  obtain ⟨h1, h2, h3⟩ := hR
  obtain ⟨i1, i2⟩ := hI
  simp only at h1 h2 h3 i1 i2
  have HIN := Aside0.mk hin
  obtain ⟨W, hW⟩ : ∃ W, W = (w.setCell ⟨g1, 0, none⟩ (.int .i64 (n + 1))).alloc (tmO p t) := ⟨_, rfl⟩
  have hz1 := blk_lt h1
  have hz2 := blk_lt h2
  have hz3 := blk_lt h3
  have cs := chg_set w g1 0 (.int .i64 (n + 1))
  have hch : Chg (fun k => k = g1) w W := by rw [hW]; exact chg_trans cs (chg_alloc _ _ _)
  have k1 : NumAt W g1 (n + 1) := by rw [hW]; exact (h1.set _).alloc _
  have k2 : ErrAt W g2 er := (hch.block g2 hz2 (fun e => h12 e.symm)).trans h2
  have k3 : NumAt W g3 v := (hch.block g3 hz3 (fun e => h13 e.symm)).trans h3
  have HCH := Aside0.mk hch
  have K1 := Aside0.mk k1
  have K2 := Aside0.mk k2
  have K3 := Aside0.mk k3
  have HX := Aside0.mk (show W.heap[w.heap.size]? = some (tmO p t) by rw [hW]; have := blk_new (w.setCell ⟨g1, 0, none⟩ (.int .i64 (n + 1))) (tmO p t); simpa [World.setCell] using this)
  have c1 := h1.cell
  have f1 := blk_frozen h1 0
  clear h1 h2 h3 cs hch k1 k2 k3 hin
  unfold tmV
  unfold tmO at hW
  go_enter Try.func62, Try.ntmps62
  go_upto_region 2 with (fail)
  rw [← hW]
  clear hW
  have c1' := K1.out.cell
  have c2' := K2.out.cell
  have c3' := K3.out.cell
  have f2' := blk_frozen K2.out 0
  obtain ⟨b0, b1, b2, b3, b4, b5, b6, b7⟩ := row8 HX.out
  by_cases q : 64 < d ∨ 400 < n + 1
  · have HE := Aside0.mk (mtF_long (v := v) (t := t) (b := b) (s := (n, er)) q)
    have HS : Chg (fun k => k = g2) W (W.setCell ⟨g2, 0, none⟩ (.int .i64 2)) := chg_set _ _ _ _
    have HF := Aside0.mk (show RepY g1 g2 g3 v (n + 1, 2) (W.setCell ⟨g2, 0, none⟩ (.int .i64 2)) ∧ Chg (GY g1 g2 g3) w (W.setCell ⟨g2, 0, none⟩ (.int .i64 2)) from
      ⟨⟨(HS.block g1 (blk_lt K1.out) h12).trans K1.out, K2.out.set 2, (HS.block g3 (blk_lt K3.out) (fun e => h23 e.symm)).trans K3.out⟩, chg_trans (HCH.out.mono fun k h => .inl h) (HS.mono fun k h => .inr (.inl h))⟩)
    have hc9 : (W.setCell ⟨g2, 0, none⟩ (.int .i64 2)).cell? ⟨g2, 0, none⟩ = some (.int .i64 2) := (K2.out.set 2).cell
    clear HS
    rcases q with q | q
    · go_wp2
      go_ret
      rw [HE.out]
      exact ⟨rfl, HF.out.1, HF.out.2⟩
    · by_cases q2 : 64 < d
      · go_wp2
        go_ret
        rw [HE.out]
        exact ⟨rfl, HF.out.1, HF.out.2⟩
      · go_wp2
        go_ret
        rw [HE.out]
        exact ⟨rfl, HF.out.1, HF.out.2⟩
  · have HE := Aside0.mk (mtF_node (v := v) (t := t) (b := b) (s := (n, er)) q)
    have q1 : d ≤ 64 := by omega
    have q2 : n + 1 ≤ 400 := by omega
    clear q
    obtain ⟨m, hm⟩ : ∃ m, m = mnP v t := ⟨_, rfl⟩
    rw [← hm] at HE
    have HM := Aside0.mk hm
    clear hm
    go_wp2_with (go_at_call 63; go_must (refine (maynode_at t p v _ W B _ rfl (TmIn.stay HIN.out (HCH.out.below (fun k e => by omega) (by omega))) (Below.refl _ _)).mono ?_; rintro e w2 ⟨rfl, hb⟩; rw [← HM.out]; have c2' := (hb.cell (p := ⟨g2, 0, none⟩) (blk_lt K2.out)).trans c2'; have f2' := (hb.frozen (p := ⟨g2, 0, none⟩) (blk_lt K2.out)).trans f2'; have hc9 : (w2.setCell ⟨g2, 0, none⟩ (.int .i64 m)).cell? ⟨g2, 0, none⟩ = some (.int .i64 m) := World.cell?_setCell_same' _ _ _ (by rw [c2']; rfl); have HB := Aside0.mk hb; clear hb))
    have L2 : ErrAt w2 g2 er := (HB.out.block g2 (blk_lt K2.out)).trans K2.out
    have HS : Chg (fun k => k = g2) w2 (w2.setCell ⟨g2, 0, none⟩ (.int .i64 m)) := chg_set _ _ _ _
    have hF : RepY g1 g2 g3 v (n + 1, m) (w2.setCell ⟨g2, 0, none⟩ (.int .i64 m)) ∧ Chg (GY g1 g2 g3) w (w2.setCell ⟨g2, 0, none⟩ (.int .i64 m)) :=
      ⟨⟨(HS.block g1 (by have := blk_lt K1.out; have := HB.out.size; omega) h12).trans ((HB.out.block g1 (blk_lt K1.out)).trans K1.out), L2.set m, (HS.block g3 (by have := blk_lt K3.out; have := HB.out.size; omega) (fun e => h23 e.symm)).trans ((HB.out.block g3 (blk_lt K3.out)).trans K3.out)⟩,
        chg_trans (HCH.out.mono fun k h => .inl h) (chg_trans (Chg.of_below HB.out) (HS.mono fun k h => .inr (.inl h)))⟩
    go_ret
    rw [HE.out]
    exact ⟨by by_cases hm : m = 0 <;> simp [hm], hF.1, hF.2⟩
set_option maxHeartbeats 4000000 in
/-- fold over the visit of May. -/
theorem foldMa_calls (t : Tm) (p : Pl) (B v : Int) (BB g1 g2 g3 : Nat) (w : World) (h12 : g1 ≠ g2) (h13 : g1 ≠ g3) (h23 : g2 ≠ g3) (h1 : BB ≤ g1) (h2 : BB ≤ g2) (h3 : BB ≤ g3) (hin : TmIn w BB p t) (hn1 : NumAt w g1 0) (hn2 : ErrAt w g2 0) (hn3 : NumAt w g3 v) :
    Calls Try.prog 61 #[tmV p t, .int .i64 1, .int .i64 0, vfMa g1 g2 g3] w (FoldPost (RepY g1 g2 g3 v) (GY g1 g2 g3) w (foldP (mtF v) t 1 0 (0, 0))) :=
  fold_Ma (mtF v) (RepY g1 g2 g3 v) InvY (fun _ d => 0 ≤ d ∧ d ≤ 65) (GY g1 g2 g3) BB (max g1 (max g2 g3) + 1) g1 g2 g3 (fun k h => by rcases h with rfl | rfl | rfl <;> omega) (by omega)
    (fun s W W' h hs => ⟨(hs g1 (.inl rfl)).trans h.1, (hs g2 (.inr (.inl rfl))).trans h.2.1, (hs g3 (.inr (.inr rfl))).trans h.2.2⟩)
    (fun t p d b s w hP _ _ hI _ hin hR => mat1_calls t p d b v s w g1 g2 g3 BB h12 h13 h23 h1 h2 hP.1 hP.2 hI hin hR)
    (fun t d b s hP hI h => mtF_ok hP hI h) (fun t d h => by omega) _ t (Nat.lt_succ_self _) p 1 0 (0, 0) w (by omega) (by omega) (by omega) ⟨by decide, by decide⟩ (by have := blk_lt hn1; have := blk_lt hn2; have := blk_lt hn3; omega) hin ⟨hn1, hn2, hn3⟩
set_option maxHeartbeats 4000000 in
theorem mayt_calls (t : Tm) (p : Pl) (v : Int) (w : World) (hin : TmIn w w.heap.size p t) :
    Calls Try.prog 34 #[tmV p t, .int .i64 v] w fun e w' => e = .returned (.int .i64 (mayT v t)) ∧ Below w.heap.size w w' := by
  have HIN := Aside0.mk hin
  obtain ⟨W, hW⟩ : ∃ W, W = (((w.alloc (tmO p t)).alloc (.cells #[.int .i64 v] 3 (0, 0))).alloc (.cells #[.int .i64 0] 3 (0, 0))).alloc (.cells #[.int .i64 0] 32 (0, 0)) := ⟨_, rfl⟩
  have hb : Below w.heap.size w W := by rw [hW]; exact below_alloc (below_alloc (below_alloc (below_alloc (Below.refl _ _) _) _) _) _
  have HX := Aside0.mk (show W.heap[w.heap.size]? = some (tmO p t) by rw [hW]; exact blk_alloc (blk_alloc (blk_alloc (blk_new _ _) _) _) _)
  have HN3 := Aside0.mk (show NumAt W (w.heap.size + 1) v by rw [hW]; have := blk_new (w.alloc (tmO p t)) (.cells #[.int .i64 v] 3 (0, 0)); simp only [World.size_alloc] at this; exact blk_alloc (blk_alloc this _) _)
  have HN1 := Aside0.mk (show NumAt W (w.heap.size + 1 + 1) 0 by rw [hW]; have := blk_new ((w.alloc (tmO p t)).alloc (.cells #[.int .i64 v] 3 (0, 0))) (.cells #[.int .i64 0] 3 (0, 0)); simp only [World.size_alloc] at this; exact blk_alloc this _)
  have HN2 := Aside0.mk (show ErrAt W (w.heap.size + 1 + 1 + 1) 0 by rw [hW]; have := blk_new (((w.alloc (tmO p t)).alloc (.cells #[.int .i64 v] 3 (0, 0))).alloc (.cells #[.int .i64 0] 3 (0, 0))) (.cells #[.int .i64 0] 32 (0, 0)); simp only [World.size_alloc] at this; exact this)
  have HB := Aside0.mk hb
  clear hin hb
  unfold tmV
  unfold tmO at hW
  go_enter Try.func34, Try.ntmps34
  go_upto_region 2 with (fail)
  rw [← hW]
  clear hW
  obtain ⟨c0, c1, c2, c3, c4, c5, c6, c7⟩ := row8 HX.out
  go_wp2_with (first
    | (go_at_call 61; go_must (refine (foldMa_calls t p 0 v w.heap.size (w.heap.size + 1 + 1) (w.heap.size + 1 + 1 + 1) (w.heap.size + 1) W (by omega) (by omega) (by omega) (by omega) (by omega) (by omega) (HIN.out.stay HB.out) HN1.out HN2.out HN3.out).mono ?_; rintro e w2 ⟨rfl, hR, hC⟩; have c9 := hR.2.1.cell; have HB2 := Aside0.mk (Chg.trans_below HB.out hC (fun k h => by rcases h with rfl | rfl | rfl <;> omega) HB.out.size); clear hR hC)))
  go_ret
  exact ⟨rfl, HB2.out⟩
end Go.Proofs.Ytcgkeolgflphiaa

/-! TMayR -/
namespace Go.Proofs.Ytcgkeolgflphiaa
open Go.RowKit Go.Proofs.YtcgkeolgflphiaaW.PrintWords Go.RegionInvYtcgkeolgflphiaa

theorem refkids_calls (k : Int) (w : World) : Calls Try.prog 67 #[.int .i64 k] w fun e w' => e = .returned (.int .i64 (arZ k)) ∧ w' = w := by
  go_enter Try.func67, Try.ntmps67
  by_cases h1 : k = 1
  · subst h1; go_wp2; go_ret; exact ⟨rfl, rfl⟩
  · by_cases h2 : k = 2
    · subst h2; go_wp2; go_ret; exact ⟨rfl, rfl⟩
    · by_cases h7 : k = 7
      · subst h7; go_wp2; go_ret; exact ⟨rfl, rfl⟩
      · by_cases h3 : k = 3
        · subst h3; go_wp2; go_ret; exact ⟨rfl, rfl⟩
        · by_cases h4 : k = 4
          · subst h4; go_wp2; go_ret; exact ⟨rfl, rfl⟩
          · by_cases h6 : k = 6
            · subst h6; go_wp2; go_ret; exact ⟨rfl, rfl⟩
            · by_cases h5 : k = 5
              · subst h5; go_wp2; go_ret; exact ⟨rfl, rfl⟩
              · have HE := Aside0.mk (show arZ k = -1 by unfold arZ; rw [if_neg (by omega), if_neg (by omega), if_neg h5])
                have b1 : (k == 1) = false := by simp [h1]
                have b2 : (k == 2) = false := by simp [h2]
                have b3 : (k == 3) = false := by simp [h3]
                have b4 : (k == 4) = false := by simp [h4]
                have b5 : (k == 5) = false := by simp [h5]
                have b6 : (k == 6) = false := by simp [h6]
                have b7 : (k == 7) = false := by simp [h7]
                go_wp2
                go_ret
                rw [HE.out]
                exact ⟨rfl, rfl⟩
abbrev kidsM (v : Int) (t : Tm) (d b : Int) : Fin (nK t) → Int × Int → Bool × (Int × Int) := fun (i : Fin (nK t)) s => foldP (mtF v) (kidF t i) (d + 1) (b + moreZ t i) s
theorem mt_long {v : Int} {t : Tm} {d b s : Int} (h : 64 < d ∨ 400 < s + 1) : foldP (mtF v) t d b (s, 0) = (false, (s + 1, 2)) := by
  have h1 := mtF_long (v := v) (t := t) (b := b) (s := (s, 0)) h
  rw [foldP_stop (by rw [h1]), h1]
theorem mt_stop {v : Int} {t : Tm} {d b s m : Int} (h : ¬ (64 < d ∨ 400 < s + 1)) (hm : mnP v t = m) (h0 : m ≠ 0) : foldP (mtF v) t d b (s, 0) = (false, (s + 1, m)) := by
  have h1 := mtF_node (v := v) (t := t) (b := b) (s := (s, 0)) h
  rw [hm, decide_eq_false h0] at h1
  rw [foldP_stop (by rw [h1]), h1]
theorem mt_go {v : Int} {t : Tm} {d b s : Int} (h : ¬ (64 < d ∨ 400 < s + 1)) (hm : mnP v t = 0) : foldP (mtF v) t d b (s, 0) = runL (kidsM v t d b) (List.finRange (nK t)) (s + 1, 0) := by
  have h1 := mtF_node (v := v) (t := t) (b := b) (s := (s, 0)) h
  rw [hm] at h1
  rw [foldP_go (by rw [h1]; rfl), h1]
theorem mt_leaf {v : Int} {t : Tm} {d b s : Int} (h : ¬ (64 < d ∨ 400 < s + 1)) (hm : mnP v t = 0) (hk : arZ t.kind = 0) : foldP (mtF v) t d b (s, 0) = (true, (s + 1, 0)) := by
  rw [mt_go h hm]
  have : List.finRange (nK t) = [] := List.eq_nil_of_length_eq_zero (by simp [mn_nK hm]; have := mn_arity hm; rw [hk] at this; simpa using this)
  rw [this]; rfl
/-- It goes to the end just if it tells 0. -/
theorem mt_true (v : Int) (N : Nat) : ∀ (t : Tm), SizeOf.sizeOf t < N → ∀ (d b : Int) (s : Int × Int), ((foldP (mtF v) t d b s).1 = true ↔ (foldP (mtF v) t d b s).2.2 = 0) := by
  induction N with
  | zero => intro t h; omega
  | succ N ih =>
    intro t hN d b s
    by_cases h1 : (mtF v t d b s).1 = true
    · rw [foldP_go h1]
      have h0 : (mtF v t d b s).2.2 = 0 := by
        by_cases h : 64 < d ∨ 400 < s.1 + 1
        · rw [mtF_long h] at h1; cases h1
        · rw [mtF_node h] at h1 ⊢; exact of_decide_eq_true h1
      have key : ∀ (xs : List (Fin (nK t))) (s : Int × Int), s.2 = 0 → ((runL (kidsM v t d b) xs s).1 = true ↔ (runL (kidsM v t d b) xs s).2.2 = 0) := by
        intro xs
        induction xs with
        | nil => intro s hs; exact ⟨fun _ => hs, fun _ => rfl⟩
        | cons x r ihr =>
          intro s hs
          have hx := ih (kidF t x) (by have := kidF_lt t x; omega) (d + 1) (b + moreZ t x) s
          rw [runL]
          by_cases hc : (kidsM v t d b x s).1 = true
          · rw [if_pos hc]
            exact ihr _ (hx.1 hc)
          · rw [if_neg hc]
            exact ⟨fun h => (by cases h), fun h => absurd (hx.2 h) hc⟩
      exact key _ _ h0
    · have h2 : (mtF v t d b s).1 = false := by simpa using h1
      rw [foldP_stop h2]
      by_cases h : 64 < d ∨ 400 < s.1 + 1
      · rw [mtF_long h]; exact ⟨fun h => (by cases h), fun h => (by cases h)⟩
      · rw [mtF_node h]; exact ⟨fun h => of_decide_eq_true h, fun h => decide_eq_true h⟩
theorem drop_fin {n k : Nat} (h : k < n) : (List.finRange n).drop k = ⟨k, h⟩ :: (List.finRange n).drop (k + 1) := by
  rw [List.drop_eq_getElem_cons (by simpa using h)]
  simp
def MtPost (w : World) (g : Nat) (r : Bool × (Int × Int)) (e : Ending) (w' : World) : Prop := e = .returned (.int .i64 r.2.2) ∧ NumAt w' g r.2.1 ∧ Chg (fun k => k = g) w w'
theorem refmay_at (A : Option Addr) (c m : Nat) (k n : Int) (l : Lv) (v : Int) (w : World) (hk : l.kind = k) (hn : l.num = n) (hm : l.kids.length = m) (hin : LvIn w w.heap.size A c l) :
    Calls Try.prog 85 #[.agg #[.int .i64 k, .int .i64 n, .slice A m c], .int .i64 v] w fun e w' => e = .returned (.int .i64 (mayB v l)) ∧ Below w.heap.size w w' := by
  subst hk; subst hn; subst hm
  exact refMay_calls A c l v w hin
set_option maxRecDepth 100000 in
set_option maxHeartbeats 16000000 in
theorem ref_mayt (v : Int) (N : Nat) : ∀ (t : Tm), SizeOf.sizeOf t < N → ∀ (p : Pl) (d b s : Int) (g B : Nat) (w : World), TmIn w B p t → NumAt w g s → B ≤ g → 0 ≤ s → s ≤ 400 → 0 ≤ d → d ≤ 65 →
    Calls Try.prog 64 #[tmV p t, .int .i64 v, .int .i64 d, .pointer (some ⟨g, 0, none⟩)] w (MtPost w g (foldP (mtF v) t d b (s, 0))) := by
  induction N with
  | zero => intro t h; omega
  | succ N ih =>
    intro t hN p d b s g B w hin hg hBg hs0 hs1 hd0 hd1
    have IH := Aside0.mk ih
    have HNN := Aside0.mk hN
    obtain ⟨W, hW⟩ : ∃ W, W = (w.setCell ⟨g, 0, none⟩ (.int .i64 (s + 1))).alloc (tmO p t) := ⟨_, rfl⟩
    have hz1 := blk_lt hg
    have cs := chg_set w g 0 (.int .i64 (s + 1))
    have hch : Chg (fun k => k = g) w W := by rw [hW]; exact chg_trans cs (chg_alloc _ _ _)
    have HCH := Aside0.mk hch
    have K1 := Aside0.mk (show NumAt W g (s + 1) by rw [hW]; exact (hg.set _).alloc _)
    have HX := Aside0.mk (show W.heap[w.heap.size]? = some (tmO p t) by rw [hW]; have := blk_new (w.setCell ⟨g, 0, none⟩ (.int .i64 (s + 1))) (tmO p t); simpa [World.setCell] using this)
    have hgz := hg.cell
    have hfz := blk_frozen hg 0
    have HIN := Aside0.mk (hin.stay (hch.below (fun k e => by omega) (by omega)))
    have hfit := hin.fit
    have HNM := Aside0.mk hfit.2.1
    have hll := hin.ls.len
    have hlen := hin.len
    simp only [Lv.kids] at hll
    have HKEEP := Aside0.mk (show ∀ (wr : World), Chg (fun k => k = g) w wr → ∀ j, j < B → wr.heap[j]? = W.heap[j]? from fun wr hc j hj => ((hc.block j (by omega) (by omega)).trans (hch.block j (by omega) (by omega)).symm))
    clear ih hN hin hg cs hch hfit
    obtain ⟨pA, pc, pB, pd, pK, pe⟩ := p
    have HLV := Aside0.mk HIN.out.lv.all
    have HLS := Aside0.mk HIN.out.ls.all
    dsimp only at HLV HLS hll hlen
    unfold tmV
    unfold tmO at hW
    dsimp only
    obtain ⟨c0, c1, c2, c3, c4, c5, c6, c7⟩ := row8 HX.out
    dsimp only at c5 c6 c7
    obtain ⟨tk, htk⟩ : ∃ x, t.kind = x := ⟨_, rfl⟩
    obtain ⟨tn, htn⟩ : ∃ x, t.num = x := ⟨_, rfl⟩
    obtain ⟨nm, hnm⟩ : ∃ x, t.name = x := ⟨_, rfl⟩
    obtain ⟨lv, hlv⟩ : ∃ x, t.lv = x := ⟨_, rfl⟩
    obtain ⟨ls, hls⟩ : ∃ x, t.ls = x := ⟨_, rfl⟩
    obtain ⟨L, hL⟩ : ∃ x, t.kids.length = x := ⟨_, rfl⟩
    rw [hlv] at hW HLV c3 c4 c5 ⊢
    rw [hls] at hW HLS hll c6 ⊢
    rw [hnm] at hW HNM c2 ⊢
    rw [htk] at hW c0 ⊢
    rw [htn] at hW c1 ⊢
    rw [hL] at hW hlen c7 ⊢
    obtain ⟨lk, hlk⟩ : ∃ x, lv.kind = x := ⟨_, rfl⟩
    obtain ⟨ln, hln⟩ : ∃ x, lv.num = x := ⟨_, rfl⟩
    obtain ⟨lm, hlm⟩ : ∃ x, lv.kids.length = x := ⟨_, rfl⟩
    obtain ⟨M, hM⟩ : ∃ x, ls.length = x := ⟨_, rfl⟩
    rw [hlk] at hW c3 ⊢
    rw [hln] at hW c4 ⊢
    rw [hlm] at hW c5 ⊢
    rw [hM] at hW hll c6 ⊢
    have HTK := Aside0.mk htk
    have HTN := Aside0.mk htn
    have HNE := Aside0.mk hnm
    have HLVE := Aside0.mk hlv
    have HLSE := Aside0.mk hls
    have HL := Aside0.mk hL
    have HLK := Aside0.mk hlk
    have HLN := Aside0.mk hln
    have HLM := Aside0.mk hlm
    have HM := Aside0.mk hM
    have hM9 : M ≤ 9223372036854775807 := by omega
    have hL9 : L ≤ 9223372036854775807 := by omega
    clear htk htn hnm hlv hls hL hlk hln hlm hM hll hlen
    obtain ⟨ar, har⟩ : ∃ x, x = arZ tk := ⟨_, rfl⟩
    have HAR := Aside0.mk har
    have harI := arZ_in tk
    rw [← har] at harI
    have HAC := Aside0.mk (show ∀ w, Calls Try.prog 67 #[.int .i64 tk] w fun e w' => e = .returned (.int .i64 ar) ∧ w' = w from fun w => by rw [har]; exact refkids_calls _ _)
    clear har
    have HLS6 := Aside0.mk c6
    have H7 := Aside0.mk c7
    go_enter Try.func64, Try.ntmps64
    go_upto_block 0 with (fail)
    rw [← hW]
    clear hW
    have k1c := K1.out.cell
    by_cases q : 64 < d ∨ 400 < s + 1
    · have HE := Aside0.mk (mt_long (v := v) (t := t) (b := b) q)
      rcases q with q | q
      · go_wp2
        go_ret
        rw [HE.out]
        exact ⟨rfl, K1.out, HCH.out⟩
      · by_cases q2 : 64 < d
        · go_wp2
          go_ret
          rw [HE.out]
          exact ⟨rfl, K1.out, HCH.out⟩
        · go_wp2
          go_ret
          rw [HE.out]
          exact ⟨rfl, K1.out, HCH.out⟩
    have Q := Aside0.mk q
    have q1 : d ≤ 64 := by omega
    have q2 : s + 1 ≤ 400 := by omega
    clear q
    by_cases h0 : (L : Int) = ar
    · have h0n : 0 ≤ ar := by omega
      have h0' : ((L : Int) != ar) = false := by simp [h0]
      have H0 := Aside0.mk (show (t.kids.length : Int) = arZ t.kind by rw [HL.out, HTK.out, ← HAR.out]; exact h0)
      clear h0 harI
      go_cut [] (fun w2 => Aside0 (mnP v t = 0) ∧ Aside0 (NumAt w2 g (s + 1)) ∧ Aside0 (Chg (fun k => k = g) w w2) ∧ Aside0 (w2.cell? ⟨w.heap.size, 7, none⟩ = some (.slice pK L pe)))
      case first =>
        by_cases k1 : tk = 1
        · have e1 : (tk == 1) = true := by simp [k1]
          have e2 : (tk == 2) = false := by simp [k1]
          have e7 : (tk == 7) = false := by simp [k1]
          by_cases n0 : tn < 0
          · have HR := Aside0.mk (mn_num (v := v) H0.out (by rw [HTK.out, HTN.out]; exact ⟨k1, .inl n0⟩))
            have HE := Aside0.mk (mt_stop (b := b) Q.out HR.out (by decide))
            clear k1
            go_upto_region 4 with (fail)
            go_quiet ((go_at_call 67; exact Calls.quiet_of_same (HAC.out _)))
            go_wp2
            go_ret
            rw [HE.out]
            exact ⟨rfl, K1.out, chg_drewN HCH.out _⟩
          · by_cases n1 : 1048576 < tn
            · have HR := Aside0.mk (mn_num (v := v) H0.out (by rw [HTK.out, HTN.out]; exact ⟨k1, .inr n1⟩))
              have HE := Aside0.mk (mt_stop (b := b) Q.out HR.out (by decide))
              clear k1
              go_upto_region 4 with (fail)
              go_quiet ((go_at_call 67; exact Calls.quiet_of_same (HAC.out _)))
              go_wp2
              go_ret
              rw [HE.out]
              exact ⟨rfl, K1.out, chg_drewN HCH.out _⟩
            · have HR := Aside0.mk (mn_else (v := v) H0.out (by rw [HTK.out, HTN.out]; omega) (by rw [HTK.out]; omega) (by rw [HTK.out]; omega))
              clear k1
              go_upto_region 4 with (fail)
              go_quiet ((go_at_call 67; exact Calls.quiet_of_same (HAC.out _)))
              go_wp2
              go_meet
              case rel => exact ⟨HR, ⟨K1.out⟩, ⟨chg_drewN HCH.out _⟩, ⟨H7.out⟩⟩
        · have e1 : (tk == 1) = false := by simp [k1]
          by_cases k2 : tk = 2
          · have e2 : (tk == 2) = true := by simp [k2]
            have HR := Aside0.mk (mn_sort (v := v) H0.out (by rw [HTK.out]; exact k2))
            have HZ := Aside0.mk (show arZ t.kind = 0 by rw [HTK.out, k2]; decide)
            clear k1 k2
            go_upto_region 4 with (fail)
            go_quiet ((go_at_call 67; exact Calls.quiet_of_same (HAC.out _)))
            go_wp2_with (go_at_call 85; go_must (refine (refmay_at pA pc lm lk ln lv v _ HLK.out HLN.out HLM.out (by exact LvS.same HLV.out (fun _ _ _ => rfl))).mono ?_; rintro e w1 ⟨rfl, hb⟩; have HB1 := Aside0.mk hb; clear hb))
            go_ret
            have hn : NumAt w1 g (s + 1) := (HB1.out.block g (blk_lt K1.out)).trans K1.out
            have hc : Chg (fun k => k = g) w w1 := chg_trans (chg_drewN HCH.out _) (Chg.of_below HB1.out)
            have HR2 : mnP v t = mayB v lv := by rw [HR.out, HLVE.out]
            by_cases hz : mayB v lv = 0
            · rw [mt_leaf Q.out (HR2.trans hz) HZ.out, hz]
              exact ⟨rfl, hn, hc⟩
            · rw [mt_stop Q.out HR2 hz]
              exact ⟨rfl, hn, hc⟩
          · have e2 : (tk == 2) = false := by simp [k2]
            by_cases k7 : tk = 7
            · have e7 : (tk == 7) = true := by simp [k7]
              have HC := Aside0.mk (show mnP v t = if nameB nm = false then 8 else if 6 < ls.length then 2 else mayLs v ls by rw [← HNE.out, ← HLSE.out]; exact mn_const H0.out (by rw [HTK.out]; exact k7))
              clear k1 k2 k7
              cases hnm : nameB nm with
              | false =>
                have HE := Aside0.mk (mt_stop (b := b) Q.out (HC.out.trans (if_pos hnm)) (by decide))
                have HNM2 := Aside0.mk hnm
                clear hnm
                go_upto_region 4 with (fail)
                go_quiet ((go_at_call 67; exact Calls.quiet_of_same (HAC.out _)))
                go_wp2_with (go_at_call 36; go_must (refine (refname_calls nm _ HNM.out).mono ?_; rintro e w1 ⟨rfl, hb⟩; rw [HNM2.out]; have HB1 := Aside0.mk hb; clear hb))
                go_ret
                rw [HE.out]
                exact ⟨rfl, (HB1.out.block g (blk_lt K1.out)).trans K1.out, chg_trans (chg_drewN HCH.out _) (Chg.of_below HB1.out)⟩
              | true =>
                have HNM2 := Aside0.mk hnm
                have HC2 := Aside0.mk (HC.out.trans (if_neg (by rw [hnm]; decide)))
                clear hnm
                by_cases h6 : 6 < M
                · have HE := Aside0.mk (mt_stop (b := b) Q.out (HC2.out.trans (if_pos (by rw [HM.out]; exact h6))) (by decide))
                  have h6' : (6 : Int) < M := by omega
                  go_upto_region 4 with (fail)
                  go_quiet ((go_at_call 67; exact Calls.quiet_of_same (HAC.out _)))
                  go_wp2_with (go_at_call 36; go_must (refine (refname_calls nm _ HNM.out).mono ?_; rintro e w1 ⟨rfl, hb⟩; rw [HNM2.out]; have c6 := (hb.cell (p := ⟨w.heap.size, 6, none⟩) (blk_lt HX.out)).trans c6; have HB1 := Aside0.mk hb; clear hb))
                  go_ret
                  rw [HE.out]
                  exact ⟨rfl, (HB1.out.block g (blk_lt K1.out)).trans K1.out, chg_trans (chg_drewN HCH.out _) (Chg.of_below HB1.out)⟩
                · have HR := Aside0.mk (HC2.out.trans (if_neg (by rw [HM.out]; exact h6)))
                  have h6' : ¬ ((6 : Int) < M) := by omega
                  clear h6
                  go_upto_region 4 with (fail)
                  go_quiet ((go_at_call 67; exact Calls.quiet_of_same (HAC.out _)))
                  go_wp2_with (go_at_call 36; go_must (refine (refname_calls nm _ HNM.out).mono ?_; rintro e w1 ⟨rfl, hb⟩; rw [HNM2.out]; have c6 := (hb.cell (p := ⟨w.heap.size, 6, none⟩) (blk_lt HX.out)).trans c6; have H71 := Aside0.mk ((hb.cell (p := ⟨w.heap.size, 7, none⟩) (blk_lt HX.out)).trans H7.out); have HLS1 := Aside0.mk (LvS.same HLS.out (w' := w1) (fun k _ hk => hb.block k hk)); have HB1 := Aside0.mk hb; clear hb))
                  have HN1 := Aside0.mk (show NumAt w1 g (s + 1) from (HB1.out.block g (blk_lt K1.out)).trans K1.out)
                  have HC1 := Aside0.mk (show Chg (fun k => k = g) w w1 from chg_trans (chg_drewN HCH.out _) (Chg.of_below HB1.out))
                  have hxz := blk_lt HX.out
                  have hz2 := HB1.out.size
                  clear HX K1 HCH
                  go_loopw [80] (fun i wr => ∃ k : Nat, i = .int .i64 k ∧ k ≤ M ∧ Aside0 (mayLs v (ls.drop k) = mayLs v ls) ∧ Aside0 (Below w1.heap.size w1 wr)) (fun i _ => M - (intOf i).toNat)
                  case atStart => exact ⟨0, rfl, Nat.zero_le _, ⟨rfl⟩, ⟨Below.refl _ _⟩⟩
                  case round =>
                    obtain ⟨k, rfl, hk, HK, HBW⟩ := hrel
                    by_cases hlt : k < M
                    · have hlt2 : k < ls.length := by rw [HM.out]; exact hlt
                      obtain ⟨x, hx⟩ : ∃ x, ls[k]? = some x := ⟨_, List.getElem?_eq_getElem hlt2⟩
                      obtain ⟨A', c', hcs, hin⟩ := (LvS.same HLS1.out (w' := wr) (fun j hj _ => HBW.out.block j (Nat.lt_of_lt_of_le hj HB1.out.size))).kid k x hx
                      obtain ⟨ad, rfl, d1, d2, d3⟩ := hcs.facts
                      have HX := Aside0.mk hx
                      have HXIN := Aside0.mk hin.all
                      obtain ⟨xk, hxk⟩ : ∃ y, x.kind = y := ⟨_, rfl⟩
                      obtain ⟨xn, hxn⟩ : ∃ y, x.num = y := ⟨_, rfl⟩
                      obtain ⟨xm, hxm⟩ : ∃ y, x.kids.length = y := ⟨_, rfl⟩
                      rw [hxk] at d1
                      rw [hxn] at d2
                      rw [hxm] at d3
                      have HXK := Aside0.mk hxk
                      have HXN := Aside0.mk hxn
                      have HXM := Aside0.mk hxm
                      clear hcs hx hin hlt2 hxk hxn hxm
                      by_cases h2 : mayB v x = 0
                      · have HK2 := Aside0.mk (show mayLs v (ls.drop (k + 1)) = mayLs v ls by rw [← HK.out, drop_kid HX.out, mayLs_go h2])
                        have HV := Aside0.mk h2
                        clear h2
                        go_wp2_with (go_at_call 85; go_must (refine (refmay_at A' c' xm xk xn x v _ HXK.out HXN.out HXM.out (by exact LvIn.stay' HXIN.out)).mono ?_; rintro e w2 ⟨rfl, hb⟩; rw [HV.out]; have HB3 := Aside0.mk hb; clear hb))
                        go_roundw
                        case rel => exact ⟨k + 1, by go_num, by omega, HK2, ⟨Below.trans (Below.alloc HBW.out HBW.out.size _) (HB3.out.mono (by simp; have := HBW.out.size; omega))⟩⟩
                        case measure => (simp [intOf]; try omega)
                      · have HV := Aside0.mk (show mayLs v ls = mayB v x by rw [← HK.out, drop_kid HX.out, mayLs_stop h2])
                        have HE := Aside0.mk (mt_stop (b := b) Q.out (HR.out.trans HV.out) h2)
                        obtain ⟨e2, he2⟩ : ∃ e2, e2 = mayB v x := ⟨_, rfl⟩
                        rw [← he2] at h2 HE
                        have h2' : (e2 != 0) = true := by simpa using h2
                        have HE2 := Aside0.mk he2
                        clear h2 he2
                        go_wp2_with (go_at_call 85; go_must (refine (refmay_at A' c' xm xk xn x v _ HXK.out HXN.out HXM.out (by exact LvIn.stay' HXIN.out)).mono ?_; rintro e w2 ⟨rfl, hb⟩; rw [← HE2.out]; have HB3 := Aside0.mk hb; clear hb))
                        go_ret
                        have hbb : Below w1.heap.size w1 w2 := Below.trans (Below.alloc HBW.out HBW.out.size _) (HB3.out.mono (by simp; have := HBW.out.size; omega))
                        rw [HE.out]
                        exact ⟨rfl, (hbb.block g (blk_lt HN1.out)).trans HN1.out, chg_trans HC1.out (Chg.of_below hbb)⟩
                    · obtain rfl : k = M := by omega
                      have hlt' : decide ((k : Int) < k) = false := by simp
                      have HZ := Aside0.mk (show mnP v t = 0 by rw [HR.out, ← HK.out, List.drop_of_length_le (by rw [HM.out]; exact Nat.le_refl _), mayLs])
                      go_wp2
                      go_meet
                      case rel => exact ⟨HZ, ⟨(HBW.out.block g (blk_lt HN1.out)).trans HN1.out⟩, ⟨chg_trans HC1.out (Chg.of_below HBW.out)⟩, ⟨(HBW.out.cell (p := ⟨w.heap.size, 7, none⟩) (Nat.lt_of_lt_of_le hxz hz2)).trans H71.out⟩⟩
            · have e7 : (tk == 7) = false := by simp [k7]
              have HR := Aside0.mk (mn_else (v := v) H0.out (by rw [HTK.out]; omega) (by rw [HTK.out]; omega) (by rw [HTK.out]; omega))
              clear k1 k2 k7
              go_upto_region 4 with (fail)
              go_quiet ((go_at_call 67; exact Calls.quiet_of_same (HAC.out _)))
              go_wp2
              go_meet
              case rel => exact ⟨HR, ⟨K1.out⟩, ⟨chg_drewN HCH.out _⟩, ⟨H7.out⟩⟩
      case rest =>
        clear HLS HLV HNM HLS6 HX c0 c1 c2 c3 c4 c5 c6 c7 k1c H7 HAC K1 HCH
        obtain ⟨HM0, K2, HC2, C7⟩ := hcut
        have HNK := Aside0.mk (show nK t = L by rw [mn_nK HM0.out, HL.out])
        have HE := Aside0.mk (mt_go (b := b) Q.out HM0.out)
        have c7 := C7.out
        go_wp2
        go_loopw [94] (fun i wr => ∃ (k : Nat) (s' : Int), i = .int .i64 k ∧ k ≤ L ∧ 0 ≤ s' ∧ s' ≤ 400 ∧ Aside0 (runL (kidsM v t d b) ((List.finRange (nK t)).drop k) (s', 0) = foldP (mtF v) t d b (s, 0)) ∧ Aside0 (NumAt wr g s') ∧ Aside0 (Chg (fun k => k = g) w wr)) (fun i _ => L - (intOf i).toNat)
        case atStart => exact ⟨0, s + 1, rfl, Nat.zero_le _, by omega, by omega, ⟨by rw [HE.out]; rfl⟩, K2, HC2⟩
        case round =>
          clear HE K2 HC2 C7 c7
          obtain ⟨k, s', rfl, hk, hs4, hs5, HE, HG1, HC1⟩ := hrel
          by_cases hlt : k < L
          · have hkn : k < nK t := by rw [HNK.out]; exact hlt
            obtain ⟨qq, hq⟩ := (TmS.same HIN.out (w' := wr) (fun j hj hz => HKEEP.out wr HC1.out j hj)).kid
            obtain ⟨⟨bk, o, hKa, hSb, hcells⟩, hxin⟩ := hq k _ (kidF_get t ⟨k, hkn⟩)
            have HXL := Aside0.mk (kidF_lt t ⟨k, hkn⟩)
            have HDF := Aside0.mk (drop_fin hkn)
            obtain ⟨x, hx⟩ : ∃ x, x = kidF t ⟨k, hkn⟩ := ⟨_, rfl⟩
            rw [← hx] at hcells hxin HXL
            dsimp only at hKa
            subst hKa
            have e0 := hcells 0 _ rfl
            have e1 := hcells 1 _ rfl
            have e2 := hcells 2 _ rfl
            have e3 := hcells 3 _ rfl
            have e4 := hcells 4 _ rfl
            have e5 := hcells 5 _ rfl
            have e6 := hcells 6 _ rfl
            have e7 := hcells 7 _ rfl
            rw [Nat.add_zero] at e0
            have HXIN := Aside0.mk hxin
            have HXE := Aside0.mk hx
            obtain ⟨b2, hb2⟩ : ∃ b2, b2 = b + moreZ t k := ⟨_, rfl⟩
            have HB2 := Aside0.mk hb2
            clear hcells hx hxin hq hb2
            have hg1z := blk_lt HG1.out
            obtain ⟨ev, s2, m2, hev⟩ : ∃ ev s2 m2, foldP (mtF v) x (d + 1) b2 (s', 0) = (ev, (s2, m2)) := ⟨_, _, _, rfl⟩
            have HEV := Aside0.mk hev
            have HT := Aside0.mk (mt_true v _ x (Nat.lt_succ_self _) (d + 1) b2 (s', 0))
            rw [hev] at HT
            have HIV := Aside0.mk (show ev = true → InvY (s2, m2) from fun h => by have := foldP_inv (F := mtF v) (Inv := InvY) (P := fun _ d => 0 ≤ d ∧ d ≤ 65) (fun t d b s hP hI h => mtF_ok hP hI h) _ x (Nat.lt_succ_self _) (d + 1) b2 (s', 0) ⟨by omega, by omega⟩ ⟨hs4, hs5⟩ (by rw [hev]; exact h); rwa [hev] at this)
            have HSTEP := Aside0.mk (show runL (kidsM v t d b) ((List.finRange (nK t)).drop k) (s', 0) = if ev = true then runL (kidsM v t d b) ((List.finRange (nK t)).drop (k + 1)) (s2, m2) else (false, (s2, m2)) by
              rw [HDF.out, runL]
              have hh : kidsM v t d b ⟨k, hkn⟩ (s', 0) = (ev, (s2, m2)) := by show foldP (mtF v) (kidF t ⟨k, hkn⟩) (d + 1) (b + moreZ t k) (s', 0) = _; rw [← HXE.out, ← HB2.out]; exact hev
              rw [hh])
            clear hev
            cases ev with
            | true =>
              have hm2 : m2 = 0 := HT.out.1 rfl
              subst hm2
              obtain ⟨i1, i2⟩ := HIV.out rfl
              simp only at i1 i2
              have HK2 := Aside0.mk ((HSTEP.out.trans (if_pos rfl)).symm.trans HE.out)
              clear HT HIV HSTEP
              go_wp2_with (go_at_call 64; go_must (refine (IH.out x (by have := HXL.out; have := HNN.out; omega) (qq k) (d + 1) b2 s' g B _ (TmIn.stay HXIN.out ((Below.refl _ _).alloc (by omega) _)) (HG1.out.alloc _) (by omega) hs4 hs5 (by omega) (by omega)).mono ?_; rintro e w3 ⟨rfl, hg1, hc1⟩; rw [HEV.out] at hg1 ⊢; have HG2 := Aside0.mk hg1; have HC3 := Aside0.mk (chg_trans HC1.out (chg_trans (chg_alloc _ _ _) hc1)); clear hg1 hc1))
              go_roundw
              case rel => exact ⟨k + 1, s2, by go_num, by omega, i1, i2, HK2, HG2, HC3⟩
              case measure => (simp [intOf]; try omega)
            | false =>
              have hm2 : m2 ≠ 0 := fun h => by have := HT.out.2 h; cases this
              have hm2' : (m2 != 0) = true := by simpa using hm2
              have HK2 := Aside0.mk ((HSTEP.out.trans (if_neg (by decide))).symm.trans HE.out)
              clear HT HIV HSTEP hm2
              go_wp2_with (go_at_call 64; go_must (refine (IH.out x (by have := HXL.out; have := HNN.out; omega) (qq k) (d + 1) b2 s' g B _ (TmIn.stay HXIN.out ((Below.refl _ _).alloc (by omega) _)) (HG1.out.alloc _) (by omega) hs4 hs5 (by omega) (by omega)).mono ?_; rintro e w3 ⟨rfl, hg1, hc1⟩; rw [HEV.out] at hg1 ⊢; have HG2 := Aside0.mk hg1; have HC3 := Aside0.mk (chg_trans HC1.out (chg_trans (chg_alloc _ _ _) hc1)); clear hg1 hc1))
              go_ret
              rw [← HK2.out]
              exact ⟨rfl, HG2.out, HC3.out⟩
          · obtain rfl : k = L := by omega
            have hlt' : decide ((k : Int) < k) = false := by simp
            have HZ := Aside0.mk (show foldP (mtF v) t d b (s, 0) = (true, (s', 0)) by rw [← HE.out, List.drop_of_length_le (by rw [List.length_finRange, HNK.out]; exact Nat.le_refl _)]; rfl)
            go_wp2
            go_ret
            rw [HZ.out]
            exact ⟨rfl, HG1.out, HC1.out⟩
    · have h0' : ((L : Int) != ar) = true := by simp [h0]
      have HR := Aside0.mk (mn_kids (v := v) (t := t) (by rw [HL.out, HTK.out, ← HAR.out]; exact h0))
      have HE := Aside0.mk (mt_stop (b := b) Q.out HR.out (by decide))
      clear h0
      by_cases ha : ar < 0
      · go_upto_region 4 with (fail)
        go_quiet ((go_at_call 67; exact Calls.quiet_of_same (HAC.out _)))
        go_wp2
        go_ret
        rw [HE.out]
        exact ⟨rfl, K1.out, chg_drewN HCH.out _⟩
      · have ha' : 0 ≤ ar := by omega
        go_upto_region 4 with (fail)
        go_quiet ((go_at_call 67; exact Calls.quiet_of_same (HAC.out _)))
        go_wp2
        go_ret
        rw [HE.out]
        exact ⟨rfl, K1.out, chg_drewN HCH.out _⟩
end Go.Proofs.Ytcgkeolgflphiaa

/-! Cnt -/
namespace Go.Proofs.Ytcgkeolgflphiaa
open Go.RowKit Go.Proofs.YtcgkeolgflphiaaW.PrintWords Go.RegionInvYtcgkeolgflphiaa

/-- Has it not the kids of its kind? -/
def leafR (t : Tm) : Bool := decide (arZ t.kind < 0 ∨ (t.kids.length : Int) < arZ t.kind)
theorem nK_eq {t : Tm} (h : leafR t = false) : (nK t : Int) = arZ t.kind ∧ 0 ≤ arZ t.kind ∧ arZ t.kind ≤ t.kids.length := by
  have h' := of_decide_eq_false h
  unfold nK
  rw [if_neg (by omega)]
  omega
theorem nK_leaf {t : Tm} (h : leafR t = true) : nK t = 0 := by
  have h' := of_decide_eq_true h
  unfold nK
  split
  · rfl
  · omega
/-- How many nodes. -/
def sizeT (t : Tm) : Nat := 1 + ((List.finRange (nK t)).map fun i => sizeT (kidF t i)).sum
termination_by SizeOf.sizeOf t
decreasing_by exact kidF_lt t i
def depthT (t : Tm) : Nat := 1 + ((List.finRange (nK t)).map fun i => depthT (kidF t i)).foldr max 0
termination_by SizeOf.sizeOf t
decreasing_by exact kidF_lt t i
def okT (t : Tm) : Prop := sizeT t ≤ 20000 ∧ depthT t ≤ 2000
instance (t : Tm) : Decidable (okT t) := by unfold okT; infer_instance
def finC (r : Bool × Int) : Bool × Int := (r.1 && decide (r.2 ≤ 20000), r.2)
def cntP (t : Tm) (d n : Int) : Bool × Int :=
  if 2000 < d then (false, n + 1) else if leafR t = true then (true, n + 1) else
    finC (runL (fun (i : Fin (nK t)) m => if 20000 < m then (false, m) else cntP (kidF t i) (d + 1) m) (List.finRange (nK t)) (n + 1))
termination_by SizeOf.sizeOf t
decreasing_by exact kidF_lt t i
def kidsC (t : Tm) (d : Int) (i : Fin (nK t)) (m : Int) : Bool × Int := if 20000 < m then (false, m) else cntP (kidF t i) (d + 1) m
theorem cnt_deep {t : Tm} {d n : Int} (h : 2000 < d) : cntP t d n = (false, n + 1) := by rw [cntP, if_pos h]
theorem cnt_leaf {t : Tm} {d n : Int} (h : ¬ 2000 < d) (hl : leafR t = true) : cntP t d n = (true, n + 1) := by rw [cntP, if_neg h, if_pos hl]
theorem cnt_go {t : Tm} {d n : Int} (h : ¬ 2000 < d) (hl : leafR t = false) : cntP t d n = finC (runL (kidsC t d) (List.finRange (nK t)) (n + 1)) := by
  rw [cntP, if_neg h, if_neg (by rw [hl]; decide)]; rfl
theorem size_leaf {t : Tm} (h : nK t = 0) : sizeT t = 1 := by
  rw [sizeT]
  have : List.finRange (nK t) = [] := List.eq_nil_of_length_eq_zero (by rw [List.length_finRange]; exact h)
  rw [this]; rfl
theorem depth_leaf {t : Tm} (h : nK t = 0) : depthT t = 1 := by
  rw [depthT]
  have : List.finRange (nK t) = [] := List.eq_nil_of_length_eq_zero (by rw [List.length_finRange]; exact h)
  rw [this]; rfl
theorem max_le_of {l : List Nat} {b : Nat} (h : ∀ x ∈ l, x ≤ b) : l.foldr max 0 ≤ b := by
  induction l with
  | nil => exact Nat.zero_le _
  | cons a r ih =>
    rw [List.foldr_cons]
    have h1 := h a (List.mem_cons_self ..)
    have h2 := ih fun x hx => h x (List.mem_cons_of_mem _ hx)
    omega
theorem le_max_of {l : List Nat} {x : Nat} (h : x ∈ l) : x ≤ l.foldr max 0 := by
  induction l with
  | nil => cases h
  | cons a r ih =>
    rw [List.foldr_cons]
    rcases List.mem_cons.1 h with rfl | h
    · omega
    · have := ih h; omega
theorem depth_kid (t : Tm) (i : Fin (nK t)) : depthT (kidF t i) + 1 ≤ depthT t := by
  rw [depthT.eq_def t]
  have := le_max_of (l := (List.finRange (nK t)).map fun i => depthT (kidF t i)) (x := depthT (kidF t i)) (List.mem_map.2 ⟨i, List.mem_finRange i, rfl⟩)
  omega
theorem size_pos (t : Tm) : 1 ≤ sizeT t := by rw [sizeT]; omega
theorem le_sum_of {l : List Nat} {x : Nat} (h : x ∈ l) : x ≤ l.sum := by
  induction l with
  | nil => cases h
  | cons a r ih =>
    rw [List.sum_cons]
    rcases List.mem_cons.1 h with rfl | h
    · omega
    · have := ih h; omega
theorem size_kid (t : Tm) (i : Fin (nK t)) : sizeT (kidF t i) + 1 ≤ sizeT t := by
  rw [sizeT.eq_def t]
  have := le_sum_of (l := (List.finRange (nK t)).map fun i => sizeT (kidF t i)) (x := sizeT (kidF t i)) (List.mem_map.2 ⟨i, List.mem_finRange i, rfl⟩)
  omega
theorem okT.kid {t : Tm} (h : okT t) (i : Fin (nK t)) : okT (kidF t i) := ⟨by have := size_kid t i; have := h.1; omega, by have := depth_kid t i; have := h.2; omega⟩
theorem cnt_bd (N : Nat) : ∀ (t : Tm), SizeOf.sizeOf t < N → ∀ (d n : Int), n ≤ 20000 → n + 1 ≤ (cntP t d n).2 ∧ (cntP t d n).2 ≤ 20001 := by
  induction N with
  | zero => intro t h; omega
  | succ N ih =>
    intro t hN d n hn
    by_cases h1 : 2000 < d
    · rw [cnt_deep h1]; simp only; omega
    · cases hl : leafR t with
      | true => rw [cnt_leaf h1 hl]; simp only; omega
      | false =>
        rw [cnt_go h1 hl]
        have key : ∀ (xs : List (Fin (nK t))) (m : Int), m ≤ 20001 → m ≤ (runL (kidsC t d) xs m).2 ∧ (runL (kidsC t d) xs m).2 ≤ 20001 := by
          intro xs
          induction xs with
          | nil => intro m hm; exact ⟨Int.le_refl _, hm⟩
          | cons x r ihr =>
            intro m hm
            have h2 : m ≤ (kidsC t d x m).2 ∧ (kidsC t d x m).2 ≤ 20001 := by
              unfold kidsC
              by_cases hg : 20000 < m
              · rw [if_pos hg]; simp only; omega
              · rw [if_neg hg]
                have := ih (kidF t x) (by have := kidF_lt t x; omega) (d + 1) m (by omega)
                omega
            rw [runL]
            by_cases hc : (kidsC t d x m).1 = true
            · rw [if_pos hc]
              have := ihr _ h2.2
              omega
            · rw [if_neg hc]; exact h2
        have := key (List.finRange (nK t)) (n + 1) (by omega)
        unfold finC
        simp only
        omega
theorem cnt_true (N : Nat) : ∀ (t : Tm), SizeOf.sizeOf t < N → ∀ (d n : Int), (cntP t d n).1 = true → d + depthT t ≤ 2001 ∧ (cntP t d n).2 = n + sizeT t ∧ (leafR t = false → n + sizeT t ≤ 20000) := by
  induction N with
  | zero => intro t h; omega
  | succ N ih =>
    intro t hN d n h
    by_cases h1 : 2000 < d
    · rw [cnt_deep h1] at h; cases h
    · cases hl : leafR t with
      | true =>
        rw [cnt_leaf h1 hl]
        have h2 := nK_leaf hl
        rw [size_leaf h2, depth_leaf h2]
        exact ⟨by omega, by simp, fun h => by cases h⟩
      | false =>
        rw [cnt_go h1 hl] at h ⊢
        have key : ∀ (xs : List (Fin (nK t))) (m : Int), (runL (kidsC t d) xs m).1 = true → (runL (kidsC t d) xs m).2 = m + ((xs.map fun i => sizeT (kidF t i)).sum : Nat) ∧ ∀ x ∈ xs, d + 1 + depthT (kidF t x) ≤ 2001 := by
          intro xs
          induction xs with
          | nil => intro m _; exact ⟨by simp [runL], fun x hx => by cases hx⟩
          | cons x r ihr =>
            intro m hm
            rw [runL] at hm ⊢
            by_cases hc : (kidsC t d x m).1 = true
            · rw [if_pos hc] at hm ⊢
              have hk : kidsC t d x m = cntP (kidF t x) (d + 1) m := by
                unfold kidsC at hc ⊢
                by_cases hg : 20000 < m
                · rw [if_pos hg] at hc; cases hc
                · rw [if_neg hg]
              have h3 := ihr _ hm
              have h4 := ih (kidF t x) (by have := kidF_lt t x; omega) (d + 1) m (by rw [← hk]; exact hc)
              rw [hk] at h3 ⊢
              refine ⟨?_, fun y hy => ?_⟩
              · rw [h3.1, h4.2.1, List.map_cons, List.sum_cons]
                push_cast
                omega
              · rcases List.mem_cons.1 hy with rfl | hy
                · exact h4.1
                · exact h3.2 y hy
            · rw [if_neg hc] at hm; cases hm
        unfold finC at h ⊢
        simp only [Bool.and_eq_true, decide_eq_true_eq] at h
        have h2 := key _ _ h.1
        have h3 : d + depthT t ≤ 2001 := by
          rw [depthT]
          have : ((List.finRange (nK t)).map fun i => depthT (kidF t i)).foldr max 0 ≤ (2000 - d).toNat := by
            refine max_le_of fun x hx => ?_
            obtain ⟨i, hi, rfl⟩ := List.mem_map.1 hx
            have := h2.2 i hi
            omega
          omega
        have h4 : (runL (kidsC t d) (List.finRange (nK t)) (n + 1)).2 = n + sizeT t := by
          rw [h2.1, sizeT]; push_cast; omega
        exact ⟨h3, h4, fun _ => by rw [← h4]; exact h.2⟩
theorem cnt_ok (N : Nat) : ∀ (t : Tm), SizeOf.sizeOf t < N → ∀ (d n : Int), d + depthT t ≤ 2001 → n + sizeT t ≤ 20000 → cntP t d n = (true, n + sizeT t) := by
  induction N with
  | zero => intro t h; omega
  | succ N ih =>
    intro t hN d n hd hn
    have h1 : ¬ 2000 < d := by
      have : 1 ≤ depthT t := by rw [depthT]; omega
      omega
    cases hl : leafR t with
    | true => rw [cnt_leaf h1 hl, size_leaf (nK_leaf hl)]; rfl
    | false =>
      rw [cnt_go h1 hl]
      have key : ∀ (xs : List (Fin (nK t))) (m : Int), m + ((xs.map fun i => sizeT (kidF t i)).sum : Nat) ≤ 20000 → runL (kidsC t d) xs m = (true, m + ((xs.map fun i => sizeT (kidF t i)).sum : Nat)) := by
        intro xs
        induction xs with
        | nil => intro m _; simp [runL]
        | cons x r ihr =>
          intro m hm
          rw [List.map_cons, List.sum_cons] at hm ⊢
          have hp := size_pos (kidF t x)
          have hk : kidsC t d x m = (true, m + sizeT (kidF t x)) := by
            unfold kidsC
            rw [if_neg (by push_cast at hm; omega)]
            exact ih (kidF t x) (by have := kidF_lt t x; omega) (d + 1) m (by have := depth_kid t x; omega) (by push_cast at hm; omega)
          rw [runL, hk, if_pos rfl, ihr _ (by push_cast at hm ⊢; omega)]
          simp only [Prod.mk.injEq, true_and]
          push_cast
          omega
      have e : (1 : Int) + (((List.finRange (nK t)).map fun i => sizeT (kidF t i)).sum : Nat) = sizeT t := by rw [sizeT.eq_def t]; push_cast; rfl
      rw [key _ _ (by omega)]
      unfold finC
      simp only [Bool.true_and, Prod.mk.injEq, decide_eq_true_eq]
      omega
theorem great_ok (t : Tm) : (cntP t 1 0).1 = decide (okT t) := by
  by_cases h : okT t
  · rw [cnt_ok _ t (Nat.lt_succ_self _) 1 0 (by have := h.2; omega) (by have := h.1; omega), decide_eq_true h]
  · rw [decide_eq_false h]
    cases hc : (cntP t 1 0).1 with
    | false => rfl
    | true =>
      have h1 := cnt_true _ t (Nat.lt_succ_self _) 1 0 hc
      refine absurd ⟨?_, by have := h1.1; omega⟩ h
      cases hl : leafR t with
      | true => rw [size_leaf (nK_leaf hl)]; decide
      | false => have := h1.2.2 hl; omega
end Go.Proofs.Ytcgkeolgflphiaa
