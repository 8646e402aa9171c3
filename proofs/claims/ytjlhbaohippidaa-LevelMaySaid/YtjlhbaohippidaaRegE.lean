/-
  A region that draws its order, by what is known of each operation's value, where operations may take blocks that were there before (estates).
-/
import Derived.Test.YtjlhbaohippidaaOps
namespace Go.RegionEYtjlhbaohippidaa
open Go.RowKit Go.RegionInvYtjlhbaohippidaa Go.Proofs.YtjlhbaohippidaaW.PrintWords

section
variable {P : Program} {ops : Array Oper} {Q : Exit → Act → World → Prop} {E : Nat → Nat → Prop} {C : Nat → List Nat} {F : Nat → (Nat → Value) → Value → World → (Nat → Prop) → Prop} {a0 : Act} {w0 : World}

/-- What the slots hold. -/
def slots (a : Act) : Nat → Value := fun t => a.tmps.getD t undef
/-- A fact leans on the slots of those alone that its operation comes behind. -/
def Leans (ops : Array Oper) (o : Oper) (G : (Nat → Value) → Value → World → (Nat → Prop) → Prop) : Prop :=
  ∀ τ τ' : Nat → Value, (∀ k ok d, ops[k]? = some ok → ok.dst = some d → predB o k = true → τ' d = τ d) → G τ = G τ'
theorem leans_not {o : Oper} {G : Value → World → (Nat → Prop) → Prop} : Leans ops o (fun _ => G) := fun _ _ _ => rfl
/-- Blocks that nobody may change. -/
def Fix (w0 : World) (E : Nat → Nat → Prop) (k : Nat) : Prop := k < w0.heap.size ∧ ∀ i, ¬ E i k
def StableE (w0 : World) (E : Nat → Nat → Prop) (G : Value → World → (Nat → Prop) → Prop) : Prop :=
  ∀ v w w' O, G v w O → w.heap.size ≤ w'.heap.size → (∀ k, k < w.heap.size → (Fix w0 E k ∨ O k) → w'.heap[k]? = w.heap[k]?) → G v w' O

/-- What is known when operation j comes up. -/
structure KnownE (ops : Array Oper) (E : Nat → Nat → Prop) (C : Nat → List Nat) (F : Nat → (Nat → Value) → Value → World → (Nat → Prop) → Prop) (a0 : Act) (w0 : World) (j : Nat) (o : Oper) (a : Act) (w : World) (O : Nat → Nat → Prop) : Prop where
  fact : ∀ i oi d, ops[i]? = some oi → oi.dst = some d → predB o i = true → freeB C ops.size i j = true → F i (slots a) (a.tmps.getD d undef) w (O i)
  owns : ∀ i, predB o i = true → freeB C ops.size i j = true → ∀ k, O i k → k < w.heap.size ∧ ¬ Fix w0 E k
  apart : ∀ i i', predB o i = true → freeB C ops.size i j = true → predB o i' = true → freeB C ops.size i' j = true → i ≠ i' → ∀ k, O i k → ¬ O i' k
  init : ∀ t, initialB ops j t = true → a.tmps.getD t undef = a0.tmps.getD t undef
  size : a.tmps.size = a0.tmps.size
  world : Chg (fun k => ∃ i, E i k) w0 w
  est : ∀ i oi, ops[i]? = some oi → (i = j ∨ predB oi j = true) → ∀ k, E i k → w.heap[k]? = w0.heap[k]?
  away : ∀ i i' oi, ops[i]? = some oi → (i = j ∨ predB oi j = true) → predB o i' = true → freeB C ops.size i' j = true → ∀ k, E i k → ¬ O i' k

/-- What operation j owes. -/
def OwesE (P : Program) (ops : Array Oper) (Q : Exit → Act → World → Prop) (R : Nat → Prop) (G : Value → World → (Nat → Prop) → Prop) (o : Oper) (a : Act) (w : World) : Prop :=
  if Region.wanted o (yielded ops a.tmps) then o.wp P a w (fun a' w' => ∃ v O', a' = a.put o.dst v ∧ G v w' O' ∧ Chg R w w' ∧ (∀ k, O' k → R k ∨ (w.heap.size ≤ k ∧ k < w'.heap.size))) Q
  else G undef w (fun _ => False)
def Taken (Cj : List Nat) (O : Nat → Nat → Prop) (Ej : Nat → Prop) (k : Nat) : Prop := (∃ i ∈ Cj, O i k) ∨ Ej k

def ObsE (P : Program) (ops : Array Oper) (Q : Exit → Act → World → Prop) (E : Nat → Nat → Prop) (C : Nat → List Nat) (F : Nat → (Nat → Value) → Value → World → (Nat → Prop) → Prop) (a0 : Act) (w0 : World) : List Oper → Nat → Prop
  | [], _ => True
  | o :: r, j => (((∀ τ, StableE w0 E (F j τ)) ∧ Leans ops o (F j)) ∧ ∀ a w O, KnownE ops E C F a0 w0 j o a w O → OwesE P ops Q (Taken (C j) O (E j)) (F j (slots a)) o a w) ∧ ObsE P ops Q E C F a0 w0 r (j + 1)

theorem ObsE.at_ : ∀ (l : List Oper) (k : Nat), ObsE P ops Q E C F a0 w0 l k → ∀ j o, l[j]? = some o → ((∀ τ, StableE w0 E (F (k + j) τ)) ∧ Leans ops o (F (k + j))) ∧ ∀ a w O, KnownE ops E C F a0 w0 (k + j) o a w O → OwesE P ops Q (Taken (C (k + j)) O (E (k + j))) (F (k + j) (slots a)) o a w := by
  intro l
  induction l with
  | nil => intro k _ j o h; simp at h
  | cons x r ih =>
    intro k h j o hj
    cases j with
    | zero => obtain rfl : x = o := by simpa using hj
              exact h.1
    | succ j =>
      have := ih (k + 1) h.2 j o (by simpa using hj)
      rwa [show k + 1 + j = k + (j + 1) by omega] at this

/-- All that has come up. -/
structure InvE (ops : Array Oper) (E : Nat → Nat → Prop) (C : Nat → List Nat) (F : Nat → (Nat → Value) → Value → World → (Nat → Prop) → Prop) (a0 : Act) (w0 : World) (L : Array Bool) (O : Nat → Nat → Prop) (a : Act) (w : World) : Prop where
  defers : a.defers = a0.defers
  size : a.tmps.size = a0.tmps.size
  fact : ∀ i o d, ops[i]? = some o → o.dst = some d → live ops C L i → F i (slots a) (a.tmps.getD d undef) w (O i)
  nofact : ∀ i o, ops[i]? = some o → o.dst = none → live ops C L i → ∃ v, F i (slots a) v w (O i)
  owns : ∀ i, live ops C L i → ∀ k, O i k → k < w.heap.size ∧ ¬ Fix w0 E k ∧ ∀ i', L.getD i' false = false → ¬ E i' k
  apart : ∀ i j, live ops C L i → live ops C L j → i ≠ j → ∀ k, O i k → ¬ O j k
  same : ∀ t, (∀ i o, ops[i]? = some o → L.getD i false = true → o.dst ≠ some t) → a.tmps.getD t undef = a0.tmps.getD t undef
  closed : ∀ i o, ops[i]? = some o → L.getD i false = true → ∀ e ∈ o.after, Region.binds .any e = true → L.getD e.on false = true
  world : Chg (fun k => ∃ i, E i k) w0 w
  est : ∀ i, L.getD i false = false → ∀ k, E i k → w.heap[k]? = w0.heap[k]?
  len : L.size = ops.size

theorem any_of_invE (hE : ∀ i j k, E i k → E j k → i = j) (hEr : ∀ i k, E i k → k < w0.heap.size) (hok : okB ops a0.tmps.size = true) (hcons : consB ops C = true) (hobs : ObsE P ops Q E C F a0 w0 ops.toList 0)
    (hend : ∀ (L : Array Bool) (O : Nat → Nat → Prop) (a : Act) (w : World), (∀ i, i < ops.size → L.getD i false = true) → InvE ops E C F a0 w0 L O a w → Q .normal a w) :
    ∀ (fuel : Nat) (L : Array Bool) (O : Nat → Nat → Prop) (a : Act) (w : World), InvE ops E C F a0 w0 L O a w → (L.toList.filter (· == false)).length ≤ fuel → wpAny P .any ops Q fuel L a w := by
  -- where nothing is ready all has come up
  have hall : ∀ (L : Array Bool) (O : Nat → Nat → Prop) (a : Act) (w : World), InvE ops E C F a0 w0 L O a w → Region.ready .any ops L = [] → ∀ i, i < ops.size → L.getD i false = true := by
    intro L O a w hI hr i
    induction i using Nat.strongRecOn with
    | _ i ih =>
      intro hi
      cases hL : L.getD i false with
      | true => rfl
      | false =>
        exfalso
        have hmem : i ∈ Region.ready .any ops L := by
          unfold Region.ready
          rw [List.mem_filter]
          refine ⟨List.mem_range.2 hi, ?_⟩
          have hL' : L.getD i true = false := by
            have hlt : i < L.size := by rw [hI.len]; exact hi
            simp only [Array.getD, hlt, dite_true] at hL ⊢
            exact hL
          rw [hL', Array.getElem?_eq_getElem hi]
          simp only [Bool.not_false, Bool.true_and, Option.map_some, Option.getD_some]
          rw [Array.all_eq_true_iff_forall_mem]
          intro e he
          cases hb : Region.binds .any e with
          | false => rfl
          | true =>
            have h1 := okB.edges hok (Array.getElem?_eq_getElem hi) e he hb
            rw [ih e.on h1 (by omega)]; rfl
        rw [hr] at hmem
        cases hmem
  intro fuel
  induction fuel with
  | zero =>
    intro L O a w hI hf
    have hr : Region.ready .any ops L = [] := by
      rw [List.eq_nil_iff_forall_not_mem]
      intro i hi
      unfold Region.ready at hi
      rw [List.mem_filter] at hi
      obtain ⟨h1, h2⟩ := hi
      have hlt : i < L.size := by rw [hI.len]; exact List.mem_range.1 h1
      simp only [Bool.and_eq_true, Bool.not_eq_true'] at h2
      have h3 : L[i] = false := by simpa [Array.getD, hlt] using h2.1
      have h4 : false ∈ L.toList.filter (· == false) := by
        rw [List.mem_filter]; exact ⟨by rw [← h3]; simp, rfl⟩
      have h5 := List.length_pos_of_mem h4
      omega
    exact ⟨hr, hend L O a w (hall L O a w hI hr) hI⟩
  | succ fuel ih =>
    intro L O a w hI hf
    refine ⟨fun hr => hend L O a w (hall L O a w hI hr) hI, fun j hj => ?_⟩
    unfold Region.ready at hj
    rw [List.mem_filter] at hj
    obtain ⟨h1, h2⟩ := hj
    have hjn : j < ops.size := List.mem_range.1 h1
    have hjL : j < L.size := by rw [hI.len]; exact hjn
    have ho : ops[j]? = some ops[j] := Array.getElem?_eq_getElem hjn
    generalize ops[j] = o at ho
    rw [ho] at h2
    simp only [Bool.and_eq_true, Bool.not_eq_true', Option.map_some, Option.getD_some] at h2
    obtain ⟨h2, h3⟩ := h2
    have hjf : L.getD j false = false := by
      simp only [Array.getD, hjL, dite_true] at h2 ⊢
      exact h2
    have hpre : ∀ e ∈ o.after, Region.binds .any e = true → L.getD e.on false = true := by
      intro e he hb
      have := Array.all_eq_true_iff_forall_mem.1 h3 e he
      simpa [hb] using this
    have hset : ∀ i, (L.setIfInBounds j true).getD i false = true ↔ i = j ∨ L.getD i false = true := by
      intro i
      by_cases e : i = j
      · subst e; simp [Array.getD, hjL]
      · have : (L.setIfInBounds j true).getD i false = L.getD i false := by
          simp only [Array.getD_eq_getD_getElem?, Array.getElem?_setIfInBounds_ne (fun h => e h.symm)]
        rw [this]; simp [e]
    -- who is known to j has not been used up
    have hlive : ∀ i, predB o i = true → freeB C ops.size i j = true → live ops C L i := by
      intro i hp hfr
      unfold predB at hp
      rw [List.any_eq_true] at hp
      obtain ⟨e, he, hb⟩ := hp
      replace he := Array.mem_toList_iff.1 he
      simp only [Bool.and_eq_true, beq_iff_eq] at hb
      have := hpre e he hb.2
      rw [hb.1] at this
      refine ⟨this, fun k hk hL => freeB.spec hfr hk fun e' => ?_⟩
      subst e'
      rw [hjf] at hL; cases hL
    -- what is known
    have hnot : ∀ i oi, ops[i]? = some oi → (i = j ∨ predB oi j = true) → L.getD i false = false := by
      intro i oi hi hor
      cases hL : L.getD i false with
      | false => rfl
      | true =>
        rcases hor with e | hp
        · subst e; rw [hjf] at hL; cases hL
        · unfold predB at hp
          rw [List.any_eq_true] at hp
          obtain ⟨e, he, hb⟩ := hp
          replace he := Array.mem_toList_iff.1 he
          simp only [Bool.and_eq_true, beq_iff_eq] at hb
          have := hI.closed i oi hi hL e he hb.2
          rw [hb.1, hjf] at this
          cases this
    have hk : KnownE ops E C F a0 w0 j o a w O := by
      refine ⟨fun i oi d hi hd hp hfr => hI.fact i oi d hi hd (hlive i hp hfr), fun i hp hfr k hO => ⟨(hI.owns i (hlive i hp hfr) k hO).1, (hI.owns i (hlive i hp hfr) k hO).2.1⟩, fun i i' hp hfr hp' hfr' hne => hI.apart i i' (hlive i hp hfr) (hlive i' hp' hfr') hne, fun t ht => ?_, hI.size, hI.world, fun i oi hi hor k hEk => hI.est i (hnot i oi hi hor) k hEk, fun i i' oi hi hor hp hfr k hEk hO => (hI.owns i' (hlive i' hp hfr) k hO).2.2 i (hnot i oi hi hor) hEk⟩
      refine hI.same t fun i oi hi hL hd => ?_
      unfold initialB at ht
      have hin := (Array.getElem?_eq_some_iff.1 hi).1
      have h5 := List.all_eq_true.1 ht i (List.mem_range.2 hin)
      rw [hi] at h5
      simp only [Bool.or_eq_true, beq_iff_eq] at h5
      rcases h5 with h5 | h5 | h5
      · subst h5; rw [hjf] at hL; cases hL
      · simp [hd] at h5
      · rw [List.any_eq_true] at h5
        obtain ⟨e, he, hb⟩ := h5
        replace he := Array.mem_toList_iff.1 he
        simp only [Bool.and_eq_true, beq_iff_eq] at hb
        have := hI.closed i oi hi hL e he hb.2
        rw [hb.1, hjf] at this
        cases this
    have hob := (ObsE.at_ ops.toList 0 hobs j o (by simpa using ho)).2 a w O (by simpa using hk)
    rw [Nat.zero_add] at hob
    have hsta : ∀ i oi, ops[i]? = some oi → (∀ τ, StableE w0 E (F i τ)) ∧ Leans ops oi (F i) := fun i oi hi => by
      have := (ObsE.at_ ops.toList 0 hobs i oi (by simpa using hi)).1
      rwa [Nat.zero_add] at this
    have hcount : ((L.setIfInBounds j true).toList.filter (· == false)).length ≤ fuel := by
      have key : ∀ (l : List Bool) (j : Nat), l[j]? = some false → ((l.set j true).filter (· == false)).length + 1 = (l.filter (· == false)).length := by
        intro l
        induction l with
        | nil => intro j h; simp at h
        | cons x r ih =>
          intro j h
          cases j with
          | zero => obtain rfl : x = false := by simpa using h
                    simp
          | succ j =>
            have := ih j (by simpa using h)
            cases x <;> simp_all
      have h6 : L.toList[j]? = some false := by
        rw [Array.getElem?_toList, Array.getElem?_eq_getElem hjL]
        congr 1
        simpa [Array.getD, hjL] using hjf
      have := key L.toList j h6
      rw [Array.toList_setIfInBounds]
      omega
    -- behind it
    have hEj : ∀ k, E j k → ∀ i, live ops C L i → ¬ O i k := fun k hEk i hl hO => (hI.owns i hl k hO).2.2 j hjf hEk
    have hR : ∀ k, Taken (C j) O (E j) k → k < w.heap.size ∧ ¬ Fix w0 E k ∧ ∀ i', L.getD i' false = false → i' ≠ j → ¬ E i' k := by
      rintro k (⟨i, hi, hO⟩ | hEk)
      · have := consB.spec hcons ho hi
        have h := hI.owns i (hlive i this.2 this.1) k hO
        exact ⟨h.1, h.2.1, fun i' hi' _ => h.2.2 i' hi'⟩
      · exact ⟨Nat.lt_of_lt_of_le (hEr j k hEk) hI.world.size, fun hf => hf.2 j hEk, fun i' _ hne hE' => hne (hE _ _ _ hE' hEk)⟩
    have hstep : ∀ v w' O', F j (slots a) v w' O' → Chg (Taken (C j) O (E j)) w w' → (∀ k, O' k → Taken (C j) O (E j) k ∨ (w.heap.size ≤ k ∧ k < w'.heap.size)) →
        wpAny P .any ops Q fuel (L.setIfInBounds j true) (a.put o.dst v) w' := by
      intro v w' O' hF hC hO'
      have hlv : ∀ i, live ops C (L.setIfInBounds j true) i → i = j ∨ (live ops C L i ∧ i ∉ C j ∧ i ≠ j) := by
        intro i hi
        by_cases e : i = j
        · exact .inl e
        · refine .inr ⟨⟨((hset i).1 hi.1).resolve_left e, fun k hk hL => hi.2 k hk ((hset k).2 (.inr hL))⟩, hi.2 j hjn ((hset j).2 (.inl rfl)), e⟩
      -- a live one's own blocks are none of those that are turned
      have hapart : ∀ i, live ops C L i → i ∉ C j → ∀ k, O i k → ¬ Taken (C j) O (E j) k := by
        rintro i hi hn k hO (⟨i', hi', hO2⟩ | hEk)
        · have := consB.spec hcons ho hi'
          exact hI.apart i i' hi (hlive i' this.2 this.1) (fun e => hn (e ▸ hi')) k hO hO2
        · exact hEj k hEk i hi hO
      have hlean : ∀ i oi, ops[i]? = some oi → (i = j ∨ L.getD i false = true) → F i (slots a) = F i (slots (a.put o.dst v)) := by
        intro i oi hi hor
        refine (hsta i oi hi).2 _ _ fun k ok d hk hd hp => ?_
        refine getD_put_ne fun e => ?_
        have hkj : k = j := okB.once hok hk hd ho e
        unfold predB at hp
        rw [List.any_eq_true] at hp
        obtain ⟨ed, hed, hb⟩ := hp
        replace hed := Array.mem_toList_iff.1 hed
        simp only [Bool.and_eq_true, beq_iff_eq] at hb
        rcases hor with rfl | hL
        · have := okB.edges hok hi ed hed hb.2
          omega
        · have := hI.closed i oi hi hL ed hed hb.2
          rw [hb.1, hkj, hjf] at this
          cases this
      have hstab : ∀ i oi v', ops[i]? = some oi → live ops C L i → i ∉ C j → F i (slots a) v' w (O i) → F i (slots (a.put o.dst v)) v' w' (O i) := by
        intro i oi v' hi hl hn hf
        rw [← hlean i oi hi (.inr hl.1)]
        refine (hsta i oi hi).1 _ _ _ _ _ hf hC.size fun k hk hor => hC.block k hk ?_
        rcases hor with h | h
        · intro hs; exact (hR k hs).2.1 h
        · exact hapart i hl hn k h
      have hnl : ∀ i, (L.setIfInBounds j true).getD i false = false → L.getD i false = false ∧ i ≠ j := by
        intro i hi
        constructor
        · cases hL : L.getD i false with
          | false => rfl
          | true => rw [(hset i).2 (.inr hL)] at hi; cases hi
        · intro e; rw [(hset i).2 (.inl e)] at hi; cases hi
      refine ih _ (fun i => if i = j then O' else O i) _ _ ⟨by rw [defers_put]; exact hI.defers, by rw [size_put]; exact hI.size, ?_, ?_, ?_, ?_, ?_, ?_, ?_, ?_, by simpa using hI.len⟩ hcount
      · intro i oi d hi hd hL
        rcases hlv i hL with e | ⟨hl, hn, hne⟩
        · subst e
          rw [ho] at hi
          obtain rfl := Option.some.inj hi
          have hF' : F i (slots (a.put o.dst v)) v w' O' := by rw [← hlean i o ho (.inl rfl)]; exact hF
          rw [hd] at hF' ⊢
          rw [getD_put_same (by rw [hI.size]; exact okB.size hok ho hd), if_pos rfl]
          exact hF'
        · rw [if_neg hne, getD_put_ne]
          · exact hstab i oi _ hi hl hn (hI.fact i oi d hi hd hl)
          · intro e
            exact hne (okB.once hok hi hd ho e)
      · intro i oi hi hd hL
        rcases hlv i hL with e | ⟨hl, hn, hne⟩
        · subst e
          rw [if_pos rfl, ← hlean i o ho (.inl rfl)]
          exact ⟨v, hF⟩
        · rw [if_neg hne]
          obtain ⟨v', hf⟩ := hI.nofact i oi hi hd hl
          exact ⟨v', hstab i oi _ hi hl hn hf⟩
      · intro i hL k hO
        by_cases e : i = j
        · rw [if_pos e] at hO
          have hz := hC.size
          rcases hO' k hO with h | h
          · have := hR k h
            exact ⟨by omega, this.2.1, fun i' hi' => this.2.2 i' (hnl i' hi').1 (hnl i' hi').2⟩
          · refine ⟨h.2, fun hf => ?_, fun i' hi' hE' => ?_⟩
            · have := hf.1; have := hI.world.size; omega
            · have := hEr i' k hE'; have := hI.world.size; omega
        · rw [if_neg e] at hO
          have := hI.owns i ((hlv i hL).resolve_left e).1 k hO
          have hz := hC.size
          exact ⟨by omega, this.2.1, fun i' hi' => this.2.2 i' (hnl i' hi').1⟩
      · intro i i2 hi hi2 hne k hO hO2
        by_cases e : i = j
        · have e2 : i2 ≠ j := fun h => hne (e.trans h.symm)
          rw [if_pos e] at hO
          rw [if_neg e2] at hO2
          have hl := (hlv i2 hi2).resolve_left e2
          rcases hO' k hO with h | h
          · exact hapart i2 hl.1 hl.2.1 k hO2 h
          · have := (hI.owns i2 hl.1 k hO2).1; omega
        · rw [if_neg e] at hO
          have hl := (hlv i hi).resolve_left e
          by_cases e2 : i2 = j
          · rw [if_pos e2] at hO2
            rcases hO' k hO2 with h | h
            · exact hapart i hl.1 hl.2.1 k hO h
            · have := (hI.owns i hl.1 k hO).1; omega
          · rw [if_neg e2] at hO2
            exact hI.apart i i2 hl.1 ((hlv i2 hi2).resolve_left e2).1 hne k hO hO2
      · intro t ht
        rw [getD_put_ne (ht j o ho ((hset j).2 (.inl rfl)))]
        exact hI.same t fun i oi hi hL => ht i oi hi ((hset i).2 (.inr hL))
      · intro i oi hi hL e he hb
        refine (hset e.on).2 ?_
        rcases (hset i).1 hL with e' | hL3
        · subst e'
          rw [ho] at hi
          obtain rfl := Option.some.inj hi
          exact .inr (hpre e he hb)
        · exact .inr (hI.closed i oi hi hL3 e he hb)
      · have hW := hI.world
        refine ⟨hC.os.trans hW.os, hC.tape.trans hW.tape, hC.output.trans hW.output, Nat.le_trans hW.size hC.size, fun k hk hn => ?_⟩
        rw [hC.block k (Nat.lt_of_lt_of_le hk hW.size) (fun hs => (hR k hs).2.1 ⟨hk, fun i hE' => hn ⟨i, hE'⟩⟩), hW.block k hk hn]
      · intro i hi k hEk
        have hn := hnl i hi
        rw [hC.block k (Nat.lt_of_lt_of_le (hEr i k hEk) hI.world.size) (fun hs => (hR k hs).2.2 i hn.1 hn.2 hEk), hI.est i hn.1 k hEk]
    unfold wpOp
    rw [ho]
    unfold OwesE at hob
    simp only []
    split
    · rename_i hw
      rw [if_pos hw] at hob
      refine .inl (Oper.wp_mono ?_ hob)
      rintro a' w' ⟨v, O', rfl, hF, hR, hO'⟩
      exact hstep v w' O' hF hR hO'
    · rename_i hw
      rw [if_neg hw] at hob
      exact hstep undef w _ hob (Chg.refl _ _) (fun _ h => h.elim)

/-- THE REGION. -/
theorem wp_region_est {id : Nat} {a0 : Act} {w0 : World} (hm : P.follows .mixedOrders = true) (E : Nat → Nat → Prop) (C : Nat → List Nat) (F : Nat → (Nat → Value) → Value → World → (Nat → Prop) → Prop) (hE : ∀ i j k, E i k → E j k → i = j) (hEr : ∀ i k, E i k → k < w0.heap.size) (hok : okB ops a0.tmps.size = true) (hcons : consB ops C = true)
    (hobs : ObsE P ops Q E C F a0 w0.drew ops.toList 0)
    (hend : ∀ a w (O : Nat → Nat → Prop), a.defers = a0.defers → a.tmps.size = a0.tmps.size → Chg (fun k => ∃ i, E i k) w0.drew w →
      (∀ (i : Nat) (o : Oper) (d : Nat), ops[i]? = some o → o.dst = some d → (∀ k, k < ops.size → i ∉ C k) → F i (slots a) (a.tmps.getD d undef) w (O i) ∧ ∀ k, O i k → k < w.heap.size ∧ ¬ Fix w0.drew E k) →
      (∀ (i : Nat) (o : Oper), ops[i]? = some o → o.dst = none → (∀ k, k < ops.size → i ∉ C k) → (∃ v, F i (slots a) v w (O i)) ∧ ∀ k, O i k → k < w.heap.size ∧ ¬ Fix w0.drew E k) →
      (∀ i i', i < ops.size → i' < ops.size → (∀ k, k < ops.size → i ∉ C k) → (∀ k, k < ops.size → i' ∉ C k) → i ≠ i' → ∀ k, O i k → ¬ O i' k) →
      (∀ (t : Nat), (∀ (i : Nat) (o : Oper), ops[i]? = some o → o.dst ≠ some t) → a.tmps.getD t undef = a0.tmps.getD t undef) → Q .normal a w) :
    (Code.region id ops true).wp P Q a0 w0 := by
  refine wp_region_any hm ?_
  refine any_of_invE (E := E) (C := C) (F := F) (a0 := a0) (w0 := w0.drew) hE hEr hok hcons hobs ?_ _ _ (fun _ _ => False) _ _ ?_ ?_
  · intro L O a w hL hI
    have hl : ∀ i, i < ops.size → (∀ k, k < ops.size → i ∉ C k) → live ops C L i := fun i hi hn => ⟨hL i hi, fun k hk _ => hn k hk⟩
    refine hend a w O hI.defers hI.size hI.world (fun i o d hi hd hn => ?_) (fun i o hi hd hn => ?_) (fun i i' hi hi' hn hn' hne => hI.apart i i' (hl i hi hn) (hl i' hi' hn') hne) (fun t ht => hI.same t fun i o hi _ => ht i o hi)
    · have hl := hl i (Array.getElem?_eq_some_iff.1 hi).1 hn
      exact ⟨hI.fact i o d hi hd hl, fun k hO => ⟨(hI.owns i hl k hO).1, (hI.owns i hl k hO).2.1⟩⟩
    · have hl := hl i (Array.getElem?_eq_some_iff.1 hi).1 hn
      exact ⟨hI.nofact i o hi hd hl, fun k hO => ⟨(hI.owns i hl k hO).1, (hI.owns i hl k hO).2.1⟩⟩
  · refine ⟨rfl, rfl, ?_, ?_, ?_, ?_, fun _ _ => rfl, ?_, Chg.refl _ _, fun _ _ _ _ => rfl, by simp⟩
    · intro i o d _ _ h; have := h.1; simp [Array.getD] at this
    · intro i o _ _ h; have := h.1; simp [Array.getD] at this
    · intro i _ k h; exact h.elim
    · intro i j _ _ _ k h; exact h.elim
    · intro i o _ h; simp [Array.getD] at h
  · exact Nat.le_trans (List.length_filter_le _ _) (by simp)
end
end Go.RegionEYtjlhbaohippidaa
