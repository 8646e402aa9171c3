/-
  A region that draws its order, by what is known of each operation's value: one obligation for each operation, whatever order comes up.
-/
import Derived.Orders
import Derived.WalkKit
namespace Go.RegionInvYtjlhbaohippidaa
open Go.RowKit

section
variable {P : Program} {ops : Array Oper} {Q : Exit → Act → World → Prop} {B : Nat} {C : Nat → List Nat} {F : Nat → Value → World → (Nat → Prop) → Prop} {a0 : Act} {w0 : World}

/-- Slot t holds what it held, when operation j comes up: whoever writes it comes up behind j. -/
def initialB (ops : Array Oper) (j t : Nat) : Bool :=
  (List.range ops.size).all fun i => i == j || (match ops[i]? with | some o => o.dst != some t || o.after.toList.any (fun e => e.on == j && Region.binds .any e) | none => true)

/-- Nobody writes slot t. -/
def nwB (ops : Array Oper) (t : Nat) : Bool := ops.toList.all fun o => o.dst != some t
theorem initialB_of_nw {ops : Array Oper} {t j : Nat} (h : nwB ops t = true) : initialB ops j t = true := by
  unfold initialB nwB at *
  rw [List.all_eq_true]
  intro i hi
  have hlt := List.mem_range.1 hi
  rw [Array.getElem?_eq_getElem hlt]
  have := List.all_eq_true.1 h _ (Array.mem_toList_iff.2 (Array.getElem_mem hlt))
  simp only [this, Bool.true_or, Bool.or_true]

def predB (o : Oper) (i : Nat) : Bool := o.after.toList.any fun e => e.on == i && Region.binds .any e

/-- The world but for the blocks of S is as it was. -/
structure Chg (S : Nat → Prop) (w w' : World) : Prop where
  os : w'.os = w.os
  tape : w'.tape = w.tape
  output : w'.output = w.output
  size : w.heap.size ≤ w'.heap.size
  block : ∀ k, k < w.heap.size → ¬ S k → w'.heap[k]? = w.heap[k]?
theorem Chg.refl (S : Nat → Prop) (w : World) : Chg S w w := ⟨rfl, rfl, rfl, Nat.le_refl _, fun _ _ _ => rfl⟩
theorem Chg.mono {S S' : Nat → Prop} {w w' : World} (h : Chg S w w') (k : ∀ i, S i → S' i) : Chg S' w w' := ⟨h.os, h.tape, h.output, h.size, fun i hi hs => h.block i hi fun x => hs (k i x)⟩
theorem Chg.of_below {S : Nat → Prop} {w w' : World} (h : Below w.heap.size w w') : Chg S w w' := ⟨h.os, h.tape, h.output, h.size, fun i hi _ => h.block i hi⟩
theorem Chg.below {S : Nat → Prop} {B : Nat} {w w' : World} (h : Chg S w w') (hS : ∀ k, S k → B ≤ k) (hB : B ≤ w.heap.size) : Below B w w' :=
  ⟨h.os, h.tape, h.output, h.size, fun i hi => h.block i (by omega) (fun x => by have := hS i x; omega)⟩
theorem Chg.trans_below {S : Nat → Prop} {B : Nat} {a w w' : World} (h : Below B a w) (k : Chg S w w') (hS : ∀ k, S k → B ≤ k) (hB : B ≤ w.heap.size) : Below B a w' := h.trans (k.below hS hB)

/-- Row v0 has become row v; no other block has turned. -/
def Grew (v0 v : Value) (w w' : World) : Prop := Chg (fun k => v0.ownBlock = some k) w w' ∧ ∀ k, v.ownBlock = some k → v0.ownBlock = some k ∨ w.heap.size ≤ k
theorem Grew.refl (v : Value) (w : World) : Grew v v w w := ⟨Chg.refl _ _, fun _ h => .inl h⟩
theorem Grew.trans {v0 v1 v2 : Value} {w w1 w2 : World} (h : Grew v0 v1 w w1) (k : Grew v1 v2 w1 w2) : Grew v0 v2 w w2 := by
  refine ⟨⟨k.1.os.trans h.1.os, k.1.tape.trans h.1.tape, k.1.output.trans h.1.output, Nat.le_trans h.1.size k.1.size, fun i hi hs => ?_⟩, fun i hi => ?_⟩
  · rw [k.1.block i (Nat.lt_of_lt_of_le hi h.1.size) (fun e => ?_), h.1.block i hi hs]
    rcases h.2 i e with e | e
    · exact hs e
    · omega
  · rcases k.2 i hi with e | e
    · exact h.2 i e
    · exact .inr (Nat.le_trans h.1.size e)
theorem Grew.of_append {v v1 : Value} {w w1 : World} (hg : w.grownBy w1 v.ownBlock) (hat : v1.ownBlock = v.ownBlock ∨ ∃ b, v1.ownBlock = some b ∧ w.heap.size ≤ b) : Grew v v1 w w1 := by
  refine ⟨⟨hg.os, hg.tape, hg.output, hg.size, fun k hk hs => hg.block k hk (fun e => hs e.symm)⟩, fun k hk => ?_⟩
  rcases hat with e | ⟨b, e, hb⟩
  · exact .inl (e ▸ hk)
  · rw [e] at hk; obtain rfl := Option.some.inj hk; exact .inr hb
theorem Grew.below {v0 v : Value} {w w' : World} {B : Nat} (h : Grew v0 v w w') (hB : ∀ k, v0.ownBlock = some k → B ≤ k) (hz : B ≤ w.heap.size) : Below B w w' := h.1.below hB hz

/-- What a fact leans on: the blocks below B and those that are its own. -/
def Stable (B : Nat) (G : Value → World → (Nat → Prop) → Prop) : Prop :=
  ∀ v w w' O, G v w O → w.heap.size ≤ w'.heap.size → (∀ k, k < w.heap.size → (k < B ∨ O k) → w'.heap[k]? = w.heap[k]?) → G v w' O

def freeB (C : Nat → List Nat) (n i j : Nat) : Bool := (List.range n).all fun k => k == j || !(C k).contains i

/-- What is known when operation j comes up. -/
structure Known (ops : Array Oper) (B : Nat) (C : Nat → List Nat) (F : Nat → Value → World → (Nat → Prop) → Prop) (a0 : Act) (w0 : World) (j : Nat) (o : Oper) (a : Act) (w : World) (O : Nat → Nat → Prop) : Prop where
  fact : ∀ i oi d, ops[i]? = some oi → oi.dst = some d → predB o i = true → freeB C ops.size i j = true → F i (a.tmps.getD d undef) w (O i)
  owns : ∀ i, predB o i = true → freeB C ops.size i j = true → ∀ k, O i k → B ≤ k ∧ k < w.heap.size
  init : ∀ t, initialB ops j t = true → a.tmps.getD t undef = a0.tmps.getD t undef
  size : a.tmps.size = a0.tmps.size
  world : Below B w0 w
  base : B ≤ w.heap.size

/-- What operation j owes. -/
def Owes (P : Program) (ops : Array Oper) (Q : Exit → Act → World → Prop) (Cj : List Nat) (O : Nat → Nat → Prop) (G : Value → World → (Nat → Prop) → Prop) (o : Oper) (a : Act) (w : World) : Prop :=
  if Region.wanted o (yielded ops a.tmps) then o.wp P a w (fun a' w' => ∃ v O', a' = a.put o.dst v ∧ G v w' O' ∧ Chg (fun k => ∃ i ∈ Cj, O i k) w w' ∧
    (∀ k, O' k → (∃ i ∈ Cj, O i k) ∨ (w.heap.size ≤ k ∧ k < w'.heap.size))) Q
  else G undef w (fun _ => False)

def Obs (P : Program) (ops : Array Oper) (Q : Exit → Act → World → Prop) (B : Nat) (C : Nat → List Nat) (F : Nat → Value → World → (Nat → Prop) → Prop) (a0 : Act) (w0 : World) : List Oper → Nat → Prop
  | [], _ => True
  | o :: r, j => (Stable B (F j) ∧ ∀ a w O, Known ops B C F a0 w0 j o a w O → Owes P ops Q (C j) O (F j) o a w) ∧ Obs P ops Q B C F a0 w0 r (j + 1)

theorem Obs.at_ : ∀ (l : List Oper) (k : Nat), Obs P ops Q B C F a0 w0 l k → ∀ j o, l[j]? = some o → Stable B (F (k + j)) ∧ ∀ a w O, Known ops B C F a0 w0 (k + j) o a w O → Owes P ops Q (C (k + j)) O (F (k + j)) o a w := by
  intro l
  induction l with
  | nil => intro k _ j o h; simp at h
  | cons x r ih =>
    intro k h j o hj
    cases j with
    | zero => obtain rfl : x = o := by simpa using hj
              exact h.1
    | succ j =>
      have := ih (k + 1) h.2 j o (by simpa using hj)
      rwa [show k + 1 + j = k + (j + 1) by omega] at this

/-- Each slot is written once; edges lead back; slots are there; no defer. -/
def okB (ops : Array Oper) (n : Nat) : Bool :=
  ((List.range ops.size).all fun i => match ops[i]? with
    | some o => (o.after.toList.all fun e => !Region.binds .any e || decide (e.on < i)) &&
      (match o.dst with | some d => decide (d < n) && ((List.range i).all fun k => match ops[k]? with | some o' => o'.dst != some d | none => true) | none => true)
    | none => true)

theorem okB.edges {n : Nat} (h : okB ops n = true) {i : Nat} {o : Oper} (hi : ops[i]? = some o) : ∀ e ∈ o.after, Region.binds .any e = true → e.on < i := by
  unfold okB at h
  have hlt := (Array.getElem?_eq_some_iff.1 hi).1
  have := List.all_eq_true.1 h i (List.mem_range.2 hlt)
  simp only [hi, Bool.and_eq_true] at this
  intro e he hb
  have h2 := List.all_eq_true.1 this.1 e (Array.mem_toList_iff.2 he)
  simpa [hb] using h2
theorem okB.size {n : Nat} (h : okB ops n = true) {i d : Nat} {o : Oper} (hi : ops[i]? = some o) (hd : o.dst = some d) : d < n := by
  unfold okB at h
  have hlt := (Array.getElem?_eq_some_iff.1 hi).1
  have := List.all_eq_true.1 h i (List.mem_range.2 hlt)
  simp only [hi, hd, Bool.and_eq_true] at this
  simpa using this.2.1
theorem okB.once {n : Nat} (h : okB ops n = true) {i k d : Nat} {o o' : Oper} (hi : ops[i]? = some o) (hd : o.dst = some d) (hk : ops[k]? = some o') (hd' : o'.dst = some d) : i = k := by
  have key : ∀ {i k : Nat} {o o' : Oper}, ops[i]? = some o → o.dst = some d → ops[k]? = some o' → o'.dst = some d → ¬ k < i := by
    intro i k o o' hi hd hk hd' hlt
    unfold okB at h
    have hl := (Array.getElem?_eq_some_iff.1 hi).1
    have := List.all_eq_true.1 h i (List.mem_range.2 hl)
    simp only [hi, hd, Bool.and_eq_true] at this
    have h2 := List.all_eq_true.1 this.2.2 k (List.mem_range.2 hlt)
    simp [hk, hd'] at h2
  have h1 := key hi hd hk hd'
  have h2 := key hk hd' hi hd
  omega

/-- What is used up is a slot's, known to who uses it alone. -/
def consB (ops : Array Oper) (C : Nat → List Nat) : Bool :=
  (List.range ops.size).all fun j => (C j).all fun i => freeB C ops.size i j && (match ops[j]? with | some o => predB o i | none => false)

theorem freeB.spec {n i j k : Nat} (h : freeB C n i j = true) (hk : k < n) (hne : k ≠ j) : i ∉ C k := by
  unfold freeB at h
  have := List.all_eq_true.1 h k (List.mem_range.2 hk)
  simp only [Bool.or_eq_true, beq_iff_eq, Bool.not_eq_true'] at this
  rcases this with e | e
  · exact absurd e hne
  · intro hm; rw [List.contains_iff_mem.2 hm] at e; cases e
theorem consB.spec (h : consB ops C = true) {j i : Nat} {o : Oper} (hj : ops[j]? = some o) (hi : i ∈ C j) : freeB C ops.size i j = true ∧ predB o i = true := by
  unfold consB at h
  have h1 := List.all_eq_true.1 h j (List.mem_range.2 (Array.getElem?_eq_some_iff.1 hj).1)
  have h2 := List.all_eq_true.1 h1 i hi
  rw [hj] at h2
  simpa using h2

/-- Operation i has come up, and nobody has used it up. -/
def live (ops : Array Oper) (C : Nat → List Nat) (L : Array Bool) (i : Nat) : Prop := L.getD i false = true ∧ ∀ k, k < ops.size → L.getD k false = true → i ∉ C k

/-- All that has come up. -/
structure Inv (ops : Array Oper) (B : Nat) (C : Nat → List Nat) (F : Nat → Value → World → (Nat → Prop) → Prop) (a0 : Act) (w0 : World) (L : Array Bool) (O : Nat → Nat → Prop) (a : Act) (w : World) : Prop where
  defers : a.defers = a0.defers
  size : a.tmps.size = a0.tmps.size
  fact : ∀ i o d, ops[i]? = some o → o.dst = some d → live ops C L i → F i (a.tmps.getD d undef) w (O i)
  owns : ∀ i, live ops C L i → ∀ k, O i k → B ≤ k ∧ k < w.heap.size
  apart : ∀ i j, live ops C L i → live ops C L j → i ≠ j → ∀ k, O i k → ¬ O j k
  same : ∀ t, (∀ i o, ops[i]? = some o → L.getD i false = true → o.dst ≠ some t) → a.tmps.getD t undef = a0.tmps.getD t undef
  closed : ∀ i o, ops[i]? = some o → L.getD i false = true → ∀ e ∈ o.after, Region.binds .any e = true → L.getD e.on false = true
  world : Below B w0 w
  base : B ≤ w.heap.size
  len : L.size = ops.size

theorem getD_put_same {a : Act} {d : Nat} {v : Value} (h : d < a.tmps.size) : (a.put (some d) v).tmps.getD d undef = v := by
  simp [Act.put, Array.getD, h]
theorem getD_put_ne {a : Act} {dst : Option Tmp} {v : Value} {t : Nat} (h : dst ≠ some t) : (a.put dst v).tmps.getD t undef = a.tmps.getD t undef := by
  cases dst with
  | none => rfl
  | some d =>
    have hne : d ≠ t := fun e => h (by rw [e])
    simp only [Act.put, Array.getD_eq_getD_getElem?, Array.getElem?_setIfInBounds_ne hne]
theorem size_put (a : Act) (dst : Option Tmp) (v : Value) : (a.put dst v).tmps.size = a.tmps.size := by
  cases dst <;> simp [Act.put]
theorem defers_put (a : Act) (dst : Option Tmp) (v : Value) : (a.put dst v).defers = a.defers := by
  cases dst <;> simp [Act.put]

theorem any_of_inv (hok : okB ops a0.tmps.size = true) (hcons : consB ops C = true) (hobs : Obs P ops Q B C F a0 w0 ops.toList 0)
    (hend : ∀ (L : Array Bool) (O : Nat → Nat → Prop) (a : Act) (w : World), (∀ i, i < ops.size → L.getD i false = true) → Inv ops B C F a0 w0 L O a w → Q .normal a w) :
    ∀ (fuel : Nat) (L : Array Bool) (O : Nat → Nat → Prop) (a : Act) (w : World), Inv ops B C F a0 w0 L O a w → (L.toList.filter (· == false)).length ≤ fuel → wpAny P .any ops Q fuel L a w := by
  -- where nothing is ready all has come up
  have hall : ∀ (L : Array Bool) (O : Nat → Nat → Prop) (a : Act) (w : World), Inv ops B C F a0 w0 L O a w → Region.ready .any ops L = [] → ∀ i, i < ops.size → L.getD i false = true := by
    intro L O a w hI hr i
    induction i using Nat.strongRecOn with
    | _ i ih =>
      intro hi
      cases hL : L.getD i false with
      | true => rfl
      | false =>
        exfalso
        have hmem : i ∈ Region.ready .any ops L := by
          unfold Region.ready
          rw [List.mem_filter]
          refine ⟨List.mem_range.2 hi, ?_⟩
          have hL' : L.getD i true = false := by
            have hlt : i < L.size := by rw [hI.len]; exact hi
            simp only [Array.getD, hlt, dite_true] at hL ⊢
            exact hL
          rw [hL', Array.getElem?_eq_getElem hi]
          simp only [Bool.not_false, Bool.true_and, Option.map_some, Option.getD_some]
          rw [Array.all_eq_true_iff_forall_mem]
          intro e he
          cases hb : Region.binds .any e with
          | false => rfl
          | true =>
            have h1 := okB.edges hok (Array.getElem?_eq_getElem hi) e he hb
            rw [ih e.on h1 (by omega)]; rfl
        rw [hr] at hmem
        cases hmem
  intro fuel
  induction fuel with
  | zero =>
    intro L O a w hI hf
    have hr : Region.ready .any ops L = [] := by
      rw [List.eq_nil_iff_forall_not_mem]
      intro i hi
      unfold Region.ready at hi
      rw [List.mem_filter] at hi
      obtain ⟨h1, h2⟩ := hi
      have hlt : i < L.size := by rw [hI.len]; exact List.mem_range.1 h1
      simp only [Bool.and_eq_true, Bool.not_eq_true'] at h2
      have h3 : L[i] = false := by simpa [Array.getD, hlt] using h2.1
      have h4 : false ∈ L.toList.filter (· == false) := by
        rw [List.mem_filter]; exact ⟨by rw [← h3]; simp, rfl⟩
      have h5 := List.length_pos_of_mem h4
      omega
    exact ⟨hr, hend L O a w (hall L O a w hI hr) hI⟩
  | succ fuel ih =>
    intro L O a w hI hf
    refine ⟨fun hr => hend L O a w (hall L O a w hI hr) hI, fun j hj => ?_⟩
    unfold Region.ready at hj
    rw [List.mem_filter] at hj
    obtain ⟨h1, h2⟩ := hj
    have hjn : j < ops.size := List.mem_range.1 h1
    have hjL : j < L.size := by rw [hI.len]; exact hjn
    have ho : ops[j]? = some ops[j] := Array.getElem?_eq_getElem hjn
    generalize ops[j] = o at ho
    rw [ho] at h2
    simp only [Bool.and_eq_true, Bool.not_eq_true', Option.map_some, Option.getD_some] at h2
    obtain ⟨h2, h3⟩ := h2
    have hjf : L.getD j false = false := by
      simp only [Array.getD, hjL, dite_true] at h2 ⊢
      exact h2
    have hpre : ∀ e ∈ o.after, Region.binds .any e = true → L.getD e.on false = true := by
      intro e he hb
      have := Array.all_eq_true_iff_forall_mem.1 h3 e he
      simpa [hb] using this
    have hset : ∀ i, (L.setIfInBounds j true).getD i false = true ↔ i = j ∨ L.getD i false = true := by
      intro i
      by_cases e : i = j
      · subst e; simp [Array.getD, hjL]
      · have : (L.setIfInBounds j true).getD i false = L.getD i false := by
          simp only [Array.getD_eq_getD_getElem?, Array.getElem?_setIfInBounds_ne (fun h => e h.symm)]
        rw [this]; simp [e]
    -- who is known to j has not been used up
    have hlive : ∀ i, predB o i = true → freeB C ops.size i j = true → live ops C L i := by
      intro i hp hfr
      unfold predB at hp
      rw [List.any_eq_true] at hp
      obtain ⟨e, he, hb⟩ := hp
      replace he := Array.mem_toList_iff.1 he
      simp only [Bool.and_eq_true, beq_iff_eq] at hb
      have := hpre e he hb.2
      rw [hb.1] at this
      refine ⟨this, fun k hk hL => freeB.spec hfr hk fun e' => ?_⟩
      subst e'
      rw [hjf] at hL; cases hL
    -- what is known
    have hk : Known ops B C F a0 w0 j o a w O := by
      refine ⟨fun i oi d hi hd hp hfr => hI.fact i oi d hi hd (hlive i hp hfr), fun i hp hfr => hI.owns i (hlive i hp hfr), fun t ht => ?_, hI.size, hI.world, hI.base⟩
      refine hI.same t fun i oi hi hL hd => ?_
      unfold initialB at ht
      have hin := (Array.getElem?_eq_some_iff.1 hi).1
      have h5 := List.all_eq_true.1 ht i (List.mem_range.2 hin)
      rw [hi] at h5
      simp only [Bool.or_eq_true, beq_iff_eq] at h5
      rcases h5 with h5 | h5 | h5
      · subst h5; rw [hjf] at hL; cases hL
      · simp [hd] at h5
      · rw [List.any_eq_true] at h5
        obtain ⟨e, he, hb⟩ := h5
        replace he := Array.mem_toList_iff.1 he
        simp only [Bool.and_eq_true, beq_iff_eq] at hb
        have := hI.closed i oi hi hL e he hb.2
        rw [hb.1, hjf] at this
        cases this
    have hob := (Obs.at_ ops.toList 0 hobs j o (by simpa using ho)).2 a w O (by simpa using hk)
    rw [Nat.zero_add] at hob
    have hsta : ∀ i oi, ops[i]? = some oi → Stable B (F i) := fun i oi hi => by
      have := (Obs.at_ ops.toList 0 hobs i oi (by simpa using hi)).1
      rwa [Nat.zero_add] at this
    have hcount : ((L.setIfInBounds j true).toList.filter (· == false)).length ≤ fuel := by
      have key : ∀ (l : List Bool) (j : Nat), l[j]? = some false → ((l.set j true).filter (· == false)).length + 1 = (l.filter (· == false)).length := by
        intro l
        induction l with
        | nil => intro j h; simp at h
        | cons x r ih =>
          intro j h
          cases j with
          | zero => obtain rfl : x = false := by simpa using h
                    simp
          | succ j =>
            have := ih j (by simpa using h)
            cases x <;> simp_all
      have h6 : L.toList[j]? = some false := by
        rw [Array.getElem?_toList, Array.getElem?_eq_getElem hjL]
        congr 1
        simpa [Array.getD, hjL] using hjf
      have := key L.toList j h6
      rw [Array.toList_setIfInBounds]
      omega
    -- behind it
    have hSB : ∀ k, (∃ i ∈ C j, O i k) → B ≤ k ∧ k < w.heap.size := by
      rintro k ⟨i, hi, hO⟩
      have := consB.spec hcons ho hi
      exact hI.owns i (hlive i this.2 this.1) k hO
    have hstep : ∀ v w' O', F j v w' O' → Chg (fun k => ∃ i ∈ C j, O i k) w w' → (∀ k, O' k → (∃ i ∈ C j, O i k) ∨ (w.heap.size ≤ k ∧ k < w'.heap.size)) →
        wpAny P .any ops Q fuel (L.setIfInBounds j true) (a.put o.dst v) w' := by
      intro v w' O' hF hC hO'
      have hlv : ∀ i, live ops C (L.setIfInBounds j true) i → i = j ∨ (live ops C L i ∧ i ∉ C j ∧ i ≠ j) := by
        intro i hi
        by_cases e : i = j
        · exact .inl e
        · refine .inr ⟨⟨((hset i).1 hi.1).resolve_left e, fun k hk hL => hi.2 k hk ((hset k).2 (.inr hL))⟩, hi.2 j hjn ((hset j).2 (.inl rfl)), e⟩
      -- a live one's own blocks are none of those that are turned
      have hapart : ∀ i, live ops C L i → i ∉ C j → ∀ k, O i k → ¬ ∃ i' ∈ C j, O i' k := by
        rintro i hi hn k hO ⟨i', hi', hO2⟩
        have := consB.spec hcons ho hi'
        exact hI.apart i i' hi (hlive i' this.2 this.1) (fun e => hn (e ▸ hi')) k hO hO2
      refine ih _ (fun i => if i = j then O' else O i) _ _ ⟨by rw [defers_put]; exact hI.defers, by rw [size_put]; exact hI.size, ?_, ?_, ?_, ?_, ?_, ?_, Nat.le_trans hI.base hC.size, by simpa using hI.len⟩ hcount
      · intro i oi d hi hd hL
        rcases hlv i hL with e | ⟨hl, hn, hne⟩
        · subst e
          rw [ho] at hi
          obtain rfl := Option.some.inj hi
          rw [hd, getD_put_same (by rw [hI.size]; exact okB.size hok ho hd), if_pos rfl]
          exact hF
        · rw [if_neg hne, getD_put_ne]
          · refine hsta i oi hi _ _ _ _ (hI.fact i oi d hi hd hl) hC.size fun k hk hor => hC.block k hk ?_
            rcases hor with h | h
            · intro hs; have := (hSB k hs).1; omega
            · exact hapart i hl hn k h
          · intro e
            exact hne (okB.once hok hi hd ho e)
      · intro i hL k hO
        by_cases e : i = j
        · rw [if_pos e] at hO
          have hb := hI.base
          have hz := hC.size
          rcases hO' k hO with h | h
          · have := hSB k h; omega
          · omega
        · rw [if_neg e] at hO
          have := hI.owns i ((hlv i hL).resolve_left e).1 k hO
          have := hC.size
          omega
      · intro i i2 hi hi2 hne k hO hO2
        by_cases e : i = j
        · have e2 : i2 ≠ j := fun h => hne (e.trans h.symm)
          rw [if_pos e] at hO
          rw [if_neg e2] at hO2
          have hl := (hlv i2 hi2).resolve_left e2
          rcases hO' k hO with h | h
          · exact hapart i2 hl.1 hl.2.1 k hO2 h
          · have := hI.owns i2 hl.1 k hO2; omega
        · rw [if_neg e] at hO
          have hl := (hlv i hi).resolve_left e
          by_cases e2 : i2 = j
          · rw [if_pos e2] at hO2
            rcases hO' k hO2 with h | h
            · exact hapart i hl.1 hl.2.1 k hO h
            · have := hI.owns i hl.1 k hO; omega
          · rw [if_neg e2] at hO2
            exact hI.apart i i2 hl.1 ((hlv i2 hi2).resolve_left e2).1 hne k hO hO2
      · intro t ht
        rw [getD_put_ne (ht j o ho ((hset j).2 (.inl rfl)))]
        exact hI.same t fun i oi hi hL => ht i oi hi ((hset i).2 (.inr hL))
      · intro i oi hi hL e he hb
        refine (hset e.on).2 ?_
        rcases (hset i).1 hL with e' | hL3
        · subst e'
          rw [ho] at hi
          obtain rfl := Option.some.inj hi
          exact .inr (hpre e he hb)
        · exact .inr (hI.closed i oi hi hL3 e he hb)
      · exact Chg.trans_below hI.world hC (fun k hk => (hSB k hk).1) hI.base
    unfold wpOp
    rw [ho]
    unfold Owes at hob
    simp only []
    split
    · rename_i hw
      rw [if_pos hw] at hob
      refine .inl (Oper.wp_mono ?_ hob)
      rintro a' w' ⟨v, O', rfl, hF, hR, hO'⟩
      exact hstep v w' O' hF hR hO'
    · rename_i hw
      rw [if_neg hw] at hob
      exact hstep undef w _ hob (Chg.refl _ _) (fun _ h => h.elim)

/-- THE REGION. -/
theorem wp_region_inv {id : Nat} {a0 : Act} {w0 : World} (hm : P.follows .mixedOrders = true) (B : Nat) (C : Nat → List Nat) (F : Nat → Value → World → (Nat → Prop) → Prop) (hB : B ≤ w0.heap.size) (hok : okB ops a0.tmps.size = true) (hcons : consB ops C = true)
    (hobs : Obs P ops Q B C F a0 w0.drew ops.toList 0)
    (hend : ∀ a w (O : Nat → Nat → Prop), a.defers = a0.defers → a.tmps.size = a0.tmps.size → Below B w0.drew w →
      (∀ (i : Nat) (o : Oper) (d : Nat), ops[i]? = some o → o.dst = some d → (∀ k, k < ops.size → i ∉ C k) → F i (a.tmps.getD d undef) w (O i) ∧ ∀ k, O i k → B ≤ k ∧ k < w.heap.size) →
      (∀ (t : Nat), (∀ (i : Nat) (o : Oper), ops[i]? = some o → o.dst ≠ some t) → a.tmps.getD t undef = a0.tmps.getD t undef) → Q .normal a w) :
    (Code.region id ops true).wp P Q a0 w0 := by
  refine wp_region_any hm ?_
  refine any_of_inv (B := B) (C := C) (F := F) (a0 := a0) (w0 := w0.drew) hok hcons hobs ?_ _ _ (fun _ _ => False) _ _ ?_ ?_
  · intro L O a w hL hI
    refine hend a w O hI.defers hI.size hI.world (fun i o d hi hd hn => ?_) (fun t ht => hI.same t fun i o hi _ => ht i o hi)
    have hl : live ops C L i := ⟨hL i (Array.getElem?_eq_some_iff.1 hi).1, fun k hk _ => hn k hk⟩
    exact ⟨hI.fact i o d hi hd hl, hI.owns i hl⟩
  · refine ⟨rfl, rfl, ?_, ?_, ?_, fun _ _ => rfl, ?_, Below.refl _ _, hB, by simp⟩
    · intro i o d _ _ h; have := h.1; simp [Array.getD] at this
    · intro i _ k h; exact h.elim
    · intro i j _ _ _ k h; exact h.elim
    · intro i o _ h; simp [Array.getD] at h
  · exact Nat.le_trans (List.length_filter_le _ _) (by simp)
theorem nwB.spec {ops : Array Oper} {t : Nat} (h : nwB ops t = true) : ∀ (i : Nat) (o : Oper), ops[i]? = some o → o.dst ≠ some t := by
  intro i o hi hd
  have := List.all_eq_true.1 h o (Array.mem_toList_iff.2 (Array.mem_of_getElem? hi))
  simp [hd] at this
theorem lit (t : Array Value) (n : Nat) (h : t.size = n) : t = ((List.range n).map fun i => t.getD i undef).toArray := by
  apply Array.ext
  · simp [h]
  · intro i h1 h2
    simp [Array.getD, h1]
end
end Go.RegionInvYtjlhbaohippidaa
