/-
  What the operations of a region with estates owe, kind by kind.
-/
import Derived.Test.YtjlhbaohippidaaRegE
import Derived.Test.YtjlhbaohippidaaOpsB
namespace Go.RegionEYtjlhbaohippidaa
open Go.RowKit Go.RegionInvYtjlhbaohippidaa Go.Proofs.YtjlhbaohippidaaW.PrintWords

section
variable {P : Program} {ops : Array Oper} {Q : Exit → Act → World → Prop} {w0 : World} {E : Nat → Nat → Prop} {Ej : Nat → Prop} {Cj : List Nat} {O : Nat → Nat → Prop} {R : Nat → Prop} {G : Value → World → (Nat → Prop) → Prop} {a : Act} {w : World} {o : Oper}

theorem toE (h : Owes P ops Q Cj O G o a w) : OwesE P ops Q (Taken Cj O Ej) G o a w := by
  unfold Owes at h
  unfold OwesE
  split
  · rename_i hw
    rw [if_pos hw] at h
    refine Oper.wp_mono ?_ h
    rintro a' w' ⟨v, O', rfl, hG, hC, hO⟩
    exact ⟨v, O', rfl, hG, hC.mono fun _ h => .inl h, fun k h => (hO k h).imp .inl id⟩
  · rename_i hw
    rw [if_neg hw] at h
    exact h
theorem obE_res {v : Value} {w' : World} (O' : Nat → Prop) (hw : Region.wanted o (yielded ops a.tmps) = true) (hr : (execOp a.eval o).run P w = .ok (.value v) w') (hC : Chg R w w') (hG : G v w' O')
    (hO : ∀ k, O' k → R k ∨ (w.heap.size ≤ k ∧ k < w'.heap.size)) : OwesE P ops Q R G o a w := by
  unfold OwesE; rw [if_pos hw]; unfold Oper.wp; rw [hr]
  exact ⟨v, O', rfl, hG, hC, hO⟩
theorem obE_run {v : Value} (hw : Region.wanted o (yielded ops a.tmps) = true) (hr : (execOp a.eval o).run P w = .ok (.value v) w) (hG : G v w fun _ => False) : OwesE P ops Q R G o a w :=
  obE_res _ hw hr (Chg.refl _ _) hG fun _ h => h.elim
theorem obE_take {v : Value} (O' : Nat → Prop) (hw : Region.wanted o (yielded ops a.tmps) = true) (hr : (execOp a.eval o).run P w = .ok (.value v) w) (hG : G v w O') (hO : ∀ k, O' k → R k) : OwesE P ops Q R G o a w :=
  obE_res O' hw hr (Chg.refl _ _) hG fun k h => .inl (hO k h)
theorem obE_call {f : FuncId} {fn : Func} {as : Array Operand} {ts : Array TypeId} (args : Array Value) (hf : P.funcs[f]? = some fn) (hname : (fn.name == "runtime.NumGoroutine") = false) (hb : fn.body.isSome = true)
    (ho : o.op = .call { callee := .value (.func f), args := as, argTypes := ts }) (hargs : as.toList.map a.eval = args.toList) (hw : Region.wanted o (yielded ops a.tmps) = true)
    (hc : Calls P f args w fun e w' => ∃ v O', e = .returned v ∧ G v w' O' ∧ Chg R w w' ∧ ∀ k, O' k → R k ∨ (w.heap.size ≤ k ∧ k < w'.heap.size)) : OwesE P ops Q R G o a w := by
  unfold OwesE; rw [if_pos hw]; unfold Oper.wp
  have hr : (execOp a.eval o).run P w = .ok (.enter f args) w := by
    have he := Go.Proofs.YtjlhbaohippidaaW.PrintLast.enters_ hf hname hb args w
    have hargs' : as.map a.eval = args := Array.toList_inj.1 (by simpa using hargs)
    unfold execOp
    simp [ho, resolve, Deferred.ofValue, invoke, Act.eval, hargs', he]
  rw [hr]
  refine hc.mono ?_
  rintro e w' ⟨v, O', rfl, hG, hC, hO⟩
  exact ⟨v, O', rfl, hG, hC, hO⟩
/-- A call that only makes what is new. -/
theorem obE_callNew {f : FuncId} {fn : Func} {as : Array Operand} {ts : Array TypeId} (args : Array Value) (hf : P.funcs[f]? = some fn) (hname : (fn.name == "runtime.NumGoroutine") = false) (hb : fn.body.isSome = true)
    (ho : o.op = .call { callee := .value (.func f), args := as, argTypes := ts }) (hargs : as.toList.map a.eval = args.toList) (hw : Region.wanted o (yielded ops a.tmps) = true)
    (hc : Calls P f args w fun e w' => ∃ v, e = .returned v ∧ G v w' (fun k => w.heap.size ≤ k ∧ k < w'.heap.size) ∧ Below w.heap.size w w') : OwesE P ops Q R G o a w := by
  refine obE_call args hf hname hb ho hargs hw (hc.mono ?_)
  rintro e w' ⟨v, rfl, hG, hB⟩
  exact ⟨v, _, rfl, hG, Chg.of_below hB, fun k h => .inr h⟩
theorem obE_list (hw : Region.wanted o (yielded ops a.tmps) = true)
    (h : wpList P ops (fun e a' w' => e = .normal ∧ ∃ v O', a' = a.put o.dst v ∧ G v w' O' ∧ Chg R w w' ∧ ∀ k, O' k → R k ∨ (w.heap.size ≤ k ∧ k < w'.heap.size)) [{ o with guard := none }] a w) : OwesE P ops Q R G o a w := by
  unfold OwesE; rw [if_pos hw]
  unfold wpList at h
  rw [if_pos (wanted_none rfl)] at h
  have he : execOp a.eval { o with guard := none } = execOp a.eval o := by cases o; rfl
  rcases h with h | ⟨_, _, _, h⟩
  · unfold Oper.wp at *
    rw [he] at h
    generalize (execOp a.eval o).run P w = r at *
    cases r with
    | ok n w' =>
      cases n with
      | value v => exact h.2
      | skip => exact h.2
      | defer d => exact h.2
      | enter f args =>
        refine Calls.mono h fun e w'' he => ?_
        cases e with
        | returned v => exact he.2
        | panicked c => exact absurd he.1 (by simp)
        | outgrown => obtain ⟨_, _, h, _⟩ := he; exact absurd h (by simp)
      | row r args => exact Rows.mono h fun _ _ he => he.2
      | _ => simp only [Oper.upon] at h
    | halt x w' =>
      cases x <;> simp only [Oper.upon] at h
      exact absurd h.1 (by simp)
  · exact absurd h.1 (by simp)
/-- A row that grows (an append's law at h). -/
theorem obE_listGrew {B : Nat} {e : TypeId} {size : Nat} {n : Nat} {xs : List Value} (v0 : Value) (hw : Region.wanted o (yielded ops a.tmps) = true) (hO : ∀ k, v0.ownBlock = some k → R k)
    (h : ∀ Q', (∀ v1 w1, w1.ownsRow B e size v1 n xs → w.grownBy w1 v0.ownBlock → (v1.ownBlock = v0.ownBlock ∨ ∃ b, v1.ownBlock = some b ∧ w.heap.size ≤ b) → wpList P ops Q' [] (a.put o.dst v1) w1) → wpList P ops Q' [{ o with guard := none }] a w) :
    OwesE P ops Q R (OwnO B e size n xs) o a w := by
  refine obE_list hw (h _ fun v1 w1 ho hg hat => ⟨rfl, v1, fun k => v1.ownBlock = some k, rfl, ⟨ho, fun _ h => h⟩, (Grew.of_append hg hat).1.mono fun k hk => hO k hk, fun k hk => ?_⟩)
  rcases (Grew.of_append hg hat).2 k hk with h' | h'
  · exact .inl (hO k h')
  · exact .inr ⟨h', own_lt ho k hk⟩

theorem stableE_det (V : Value) : StableE w0 E fun v _ _ => v = V := fun _ _ _ _ h _ _ => h
theorem stableE_pure {p : Value → Prop} : StableE w0 E fun v _ _ => p v := fun _ _ _ _ h _ _ => h
theorem stableE_own (B : Nat) (e : TypeId) (size n : Nat) (xs : List Value) : StableE w0 E (OwnO B e size n xs) := by
  rintro v w w' O ⟨h, hO⟩ hz hk
  exact ⟨ownsRow_same h fun k hv => hk k (own_lt h k hv) (.inr (hO k hv)), hO⟩
theorem stableE_and {G G' : Value → World → (Nat → Prop) → Prop} (h : StableE w0 E G) (h' : StableE w0 E G') : StableE w0 E fun v w O => G v w O ∧ G' v w O :=
  fun v w w' O hg hz hk => ⟨h v w w' O hg.1 hz hk, h' v w w' O hg.2 hz hk⟩
theorem stableE_ex {α : Type} {G : α → Value → World → (Nat → Prop) → Prop} (h : ∀ x, StableE w0 E (G x)) : StableE w0 E fun v w O => ∃ x, G x v w O :=
  fun v w w' O ⟨x, hg⟩ hz hk => ⟨x, h x v w w' O hg hz hk⟩
/-- A block of one's own, as it is. -/
theorem stableE_block (g : Nat) (ob : Obj) : StableE w0 E fun _ w O => w.heap[g]? = some ob ∧ O g :=
  fun _ w w' O hg _ hk => ⟨(hk g (blk_lt hg.1) (.inr hg.2)).trans hg.1, hg.2⟩

theorem reads_lit {w : World} {p : Nat} {k : IntKind} {m : Int} {e : TypeId} (h : w.heap[p]? = some (.cells #[.int k m] e (0, 0))) : ReadsInt w k (some ⟨p, 0, none⟩) 1 [m] :=
  ⟨rfl, by decide, fun _ => ⟨_, rfl, fun j hj => by
    obtain rfl : j = 0 := by omega
    rw [show (⟨p, 0, none⟩ : Addr).add 0 = ⟨p, 0, none⟩ from by simp [Addr.add], cell_of_row _ _ _ _ _ _ h]; rfl⟩⟩
/-- At most two estates. -/
def est2 (i1 i2 : Nat) (A B : Nat → Prop) (i k : Nat) : Prop := (i = i1 ∧ A k) ∨ (i = i2 ∧ B k)
theorem est2_dis {i1 i2 : Nat} {A B : Nat → Prop} (h : ∀ k, A k → B k → False) : ∀ i j k, est2 i1 i2 A B i k → est2 i1 i2 A B j k → i = j := by
  rintro i j k (⟨rfl, ha⟩ | ⟨rfl, hb⟩) (⟨rfl, ha'⟩ | ⟨rfl, hb'⟩)
  · rfl
  · exact (h k ha hb').elim
  · exact (h k ha' hb).elim
  · rfl
theorem est2_range {w : World} {i1 i2 : Nat} {A B : Nat → Prop} (hA : ∀ k, A k → k < w.heap.size) (hB : ∀ k, B k → k < w.heap.size) : ∀ i k, est2 i1 i2 A B i k → k < w.heap.size := by
  rintro i k (⟨rfl, ha⟩ | ⟨rfl, hb⟩)
  · exact hA k ha
  · exact hB k hb
theorem est2_fix {w : World} {i1 i2 : Nat} {A B : Nat → Prop} {k : Nat} (hk : k < w.heap.size) (hA : ¬ A k) (hB : ¬ B k) : Fix w (est2 i1 i2 A B) k := ⟨hk, fun i h => h.elim (fun h => hA h.2) fun h => hB h.2⟩
theorem est2_chg {w w' : World} {i1 i2 : Nat} {A B : Nat → Prop} (h : Chg (fun k => ∃ i, est2 i1 i2 A B i k) w w') : Chg (fun k => A k ∨ B k) w w' := h.mono fun k ⟨_, h⟩ => h.imp And.right And.right
/-- What stands in a block that nobody may change stands there yet. -/
theorem _root_.Go.RegionInvYtjlhbaohippidaa.Chg.still {S : Nat → Prop} {w w' : World} {k : Nat} {ob : Obj} (h : Chg S w w') (hk : w.heap[k]? = some ob) (hn : ¬ S k) : w'.heap[k]? = some ob := (h.block k (blk_lt hk) hn).trans hk
theorem KnownE.fix {C : Nat → List Nat} {F : Nat → (Nat → Value) → Value → World → (Nat → Prop) → Prop} {a0 : Act} {j : Nat} (h : KnownE ops E C F a0 w0 j o a w O) : ∀ k, Fix w0 E k → w.heap[k]? = w0.heap[k]? :=
  fun k hk => h.world.block k hk.1 fun ⟨i, hi⟩ => hk.2 i hi

theorem obE_store {w' : World} (O' : Nat → Prop) (hw : Region.wanted o (yielded ops a.tmps) = true) (hr : (execOp a.eval o).run P w = .ok .skip w') (hC : Chg R w w') (hG : G undef w' O')
    (hO : ∀ k, O' k → R k ∨ (w.heap.size ≤ k ∧ k < w'.heap.size)) : OwesE P ops Q R G o a w := by
  unfold OwesE; rw [if_pos hw]; unfold Oper.wp; rw [hr]
  exact ⟨undef, O', rfl, hG, hC, hO⟩
theorem obE_loadRow {t t' : TypeId} {g : Nat} {cs : Array Value} {fr : Nat × Nat} {d : TypeDesc} {x : Operand} (ho : o.op = .load t x) (hx : a.eval x = .pointer (some ⟨g, 0, none⟩)) (hg : w.heap[g]? = some (.cells cs t' fr)) (hu : P.underlying t = some d)
    (hd : (match d with | .struct _ | .array _ _ => true | _ => false) = true) (hi : (P.info? t).map (·.size) = some cs.size) (hw : Region.wanted o (yielded ops a.tmps) = true) (hG : G (.agg cs) w fun _ => False) : OwesE P ops Q R G o a w := by
  unfold OwesE; rw [if_pos hw]
  exact wp_load_row t x ho g hx t' cs fr d hg hu hd hi ⟨_, _, rfl, hG, Chg.refl _ _, fun _ h => h.elim⟩
theorem obE_maxInt {t : TypeId} {x y : Operand} {k : IntKind} {m n : Int} (ho : o.op = .call { callee := .builtin .max, args := #[x, y], argTypes := #[t, t] }) (hx : a.eval x = .int k m) (hy : a.eval y = .int k n)
    (hw : Region.wanted o (yielded ops a.tmps) = true) (hG : G (.int k (max m n)) w fun _ => False) : OwesE P ops Q R G o a w :=
  obE_run hw (by
    unfold execOp; rw [ho]
    simp only [resolve, List.map_toArray, List.map_cons, List.map_nil, hx, hy]
    simp only [invoke, Sem.run_bind, Sem.run_pure, Result.andThen_ok]
    simp [go_sem]
    omega) hG
theorem obE_minInt {t : TypeId} {x y : Operand} {k : IntKind} {m n : Int} (ho : o.op = .call { callee := .builtin .min, args := #[x, y], argTypes := #[t, t] }) (hx : a.eval x = .int k m) (hy : a.eval y = .int k n)
    (hw : Region.wanted o (yielded ops a.tmps) = true) (hG : G (.int k (min m n)) w fun _ => False) : OwesE P ops Q R G o a w :=
  obE_run hw (by
    unfold execOp; rw [ho]
    simp only [resolve, List.map_toArray, List.map_cons, List.map_nil, hx, hy]
    simp only [invoke, Sem.run_bind, Sem.run_pure, Result.andThen_ok]
    simp [go_sem]
    omega) hG
theorem obE_lit {cs : Array Value} {e : TypeId} {m : Nat} (hw : Region.wanted o (yielded ops a.tmps) = true) (hr : (execOp a.eval o).run P w = .ok (.value (.slice (some ⟨w.heap.size, 0, none⟩) m m)) (w.alloc (.cells cs e (0, 0)))) (hG : ∀ w', w'.heap[w.heap.size]? = some (.cells cs e (0, 0)) → Below w.heap.size w w' → G (.slice (some ⟨w.heap.size, 0, none⟩) m m) w' fun k => k = w.heap.size) : OwesE P ops Q R G o a w :=
  obE_res (fun k => k = w.heap.size) hw hr (Chg.of_below ((Below.refl _ _).alloc (Nat.le_refl _) _)) (hG _ (blk_new _ _) ((Below.refl _ _).alloc (Nat.le_refl _) _)) (fun k hk => .inr ⟨by omega, by simp; omega⟩)
end
end Go.RegionEYtjlhbaohippidaa
