/-
  What the operations of a region owe, kind by kind.
-/
import Derived.Test.YtjlhbaohippidaaRegion
import Derived.Test.YtjlhbaohippidaaWWords
import Derived.Test.YtjlhbaohippidaaWLast
namespace Go.RegionInvYtjlhbaohippidaa
open Go.RowKit Go.Proofs.YtjlhbaohippidaaW.PrintWords

section
variable {P : Program} {ops : Array Oper} {Q : Exit → Act → World → Prop} {B : Nat} {Cj : List Nat} {O : Nat → Nat → Prop} {G : Value → World → (Nat → Prop) → Prop} {a : Act} {w : World} {o : Oper}

theorem wanted_none {y : Nat → Option Bool} (h : o.guard = none) : Region.wanted o y = true := by unfold Region.wanted; rw [h]
theorem yielded_of {j d : Nat} {oj : Oper} {c : Bool} (hj : ops[j]? = some oj) (hd : oj.dst = some d) (hv : a.tmps.getD d undef = .bool c) : yielded ops a.tmps j = some c := by
  unfold yielded
  rw [hj, Option.bind_some, hd, Option.bind_some]
  have hlt : d < a.tmps.size := by
    rcases Nat.lt_or_ge d a.tmps.size with h | h
    · exact h
    · simp [Array.getD, Nat.not_lt.2 h, undef] at hv
  rw [Array.getElem?_eq_getElem hlt]
  have : a.tmps[d] = .bool c := by simpa [Array.getD, hlt] using hv
  rw [this]
theorem wanted_of {j d : Nat} {oj : Oper} {b : Bool} (hg : o.guard = some (j, b)) (hj : ops[j]? = some oj) (hd : oj.dst = some d) (hv : a.tmps.getD d undef = .bool b) : Region.wanted o (yielded ops a.tmps) = true := by
  unfold Region.wanted; rw [hg]; simp only []; rw [yielded_of hj hd hv]; simp
theorem unwanted_of {j d : Nat} {oj : Oper} {b c : Bool} (hg : o.guard = some (j, b)) (hj : ops[j]? = some oj) (hd : oj.dst = some d) (hv : a.tmps.getD d undef = .bool c) (hne : c ≠ b) : Region.wanted o (yielded ops a.tmps) = false := by
  unfold Region.wanted; rw [hg]; simp only []; rw [yielded_of hj hd hv]; simp [hne]
theorem unwanted_of_skipped {j d : Nat} {oj : Oper} {b : Bool} (hg : o.guard = some (j, b)) (hj : ops[j]? = some oj) (hd : oj.dst = some d) (hv : a.tmps.getD d undef = undef) : Region.wanted o (yielded ops a.tmps) = false := by
  unfold Region.wanted; rw [hg]; simp only []
  have : yielded ops a.tmps j = none := by
    unfold yielded
    rw [hj, Option.bind_some, hd, Option.bind_some]
    rcases Nat.lt_or_ge d a.tmps.size with h | h
    · rw [Array.getElem?_eq_getElem h]
      have : a.tmps[d] = undef := by simpa [Array.getD, h] using hv
      rw [this]; rfl
    · rw [Array.getElem?_eq_none h]
  rw [this]; simp

theorem ob_skip (hw : Region.wanted o (yielded ops a.tmps) = false) (hG : G undef w fun _ => False) : Owes P ops Q Cj O G o a w := by
  unfold Owes; rw [hw]; exact hG
theorem ob_run {v : Value} (hw : Region.wanted o (yielded ops a.tmps) = true) (hr : (execOp a.eval o).run P w = .ok (.value v) w) (hG : G v w fun _ => False) : Owes P ops Q Cj O G o a w := by
  unfold Owes; rw [if_pos hw]; unfold Oper.wp; rw [hr]
  exact ⟨v, _, rfl, hG, Chg.refl _ _, fun _ h => h.elim⟩
theorem ob_runO {v : Value} (O' : Nat → Prop) (hw : Region.wanted o (yielded ops a.tmps) = true) (hr : (execOp a.eval o).run P w = .ok (.value v) w) (hG : G v w O') (hO : ∀ k, O' k → ∃ i ∈ Cj, O i k) : Owes P ops Q Cj O G o a w := by
  unfold Owes; rw [if_pos hw]; unfold Oper.wp; rw [hr]
  exact ⟨v, O', rfl, hG, Chg.refl _ _, fun k h => .inl (hO k h)⟩
theorem ob_new {v : Value} {w' : World} (O' : Nat → Prop) (hw : Region.wanted o (yielded ops a.tmps) = true) (hr : (execOp a.eval o).run P w = .ok (.value v) w') (hb : Below w.heap.size w w') (hG : G v w' O')
    (hO : ∀ k, O' k → (∃ i ∈ Cj, O i k) ∨ (w.heap.size ≤ k ∧ k < w'.heap.size)) : Owes P ops Q Cj O G o a w := by
  unfold Owes; rw [if_pos hw]; unfold Oper.wp; rw [hr]
  exact ⟨v, O', rfl, hG, Chg.of_below hb, hO⟩
theorem ob_move {x : Operand} {v : Value} (ho : o.op = .move x) (hx : a.eval x = v) (hw : Region.wanted o (yielded ops a.tmps) = true) (hG : G v w fun _ => False) : Owes P ops Q Cj O G o a w :=
  ob_run hw (by unfold execOp; rw [ho]; simp only []; rw [hx]; rfl) hG
theorem ob_assign {x : Operand} {v : Value} (ho : o.op = .assign x) (hx : a.eval x = v) (hw : Region.wanted o (yielded ops a.tmps) = true) (hG : G v w fun _ => False) : Owes P ops Q Cj O G o a w :=
  ob_run hw (by unfold execOp; rw [ho]; simp only []; rw [hx]; rfl) hG
theorem ob_assignO {x : Operand} {v : Value} (O' : Nat → Prop) (ho : o.op = .assign x) (hx : a.eval x = v) (hw : Region.wanted o (yielded ops a.tmps) = true) (hG : G v w O') (hO : ∀ k, O' k → ∃ i ∈ Cj, O i k) : Owes P ops Q Cj O G o a w :=
  ob_runO O' hw (by unfold execOp; rw [ho]; simp only []; rw [hx]; rfl) hG hO
theorem ob_moveO {x : Operand} {v : Value} (O' : Nat → Prop) (ho : o.op = .move x) (hx : a.eval x = v) (hw : Region.wanted o (yielded ops a.tmps) = true) (hG : G v w O') (hO : ∀ k, O' k → ∃ i ∈ Cj, O i k) : Owes P ops Q Cj O G o a w :=
  ob_runO O' hw (by unfold execOp; rw [ho]; simp only []; rw [hx]; rfl) hG hO
theorem ob_pick {c x y : Operand} {b : Bool} {v : Value} (ho : o.op = .pick c x y) (hc : a.eval c = .bool b) (hx : a.eval (if b then x else y) = v) (hw : Region.wanted o (yielded ops a.tmps) = true) (hG : G v w fun _ => False) : Owes P ops Q Cj O G o a w :=
  ob_run hw (by
    unfold execOp; rw [ho]; simp only []; rw [hc]
    cases b <;> simp_all [asBool]) hG
theorem ob_bin {p : BinOp} {t t' : TypeId} {x y : Operand} {vx vy v : Value} (ho : o.op = .binOp p t x y t') (hx : a.eval x = vx) (hy : a.eval y = vy) (hr : (binOp p t vx vy).run P w = .ok v w)
    (hp : p ≠ .shl ∧ p ≠ .shr ∧ p ≠ .eql ∧ p ≠ .neq) (hw : Region.wanted o (yielded ops a.tmps) = true) (hG : G v w fun _ => False) : Owes P ops Q Cj O G o a w :=
  ob_run hw (by
    obtain ⟨h1, h2, h3, h4⟩ := hp
    unfold execOp; rw [ho]; simp only []; rw [hx, hy]
    cases p <;> simp_all [eqGuard]) hG
theorem run_geqB {t : TypeId} {k : IntKind} (x y : Int) (b : Bool) (h : decide (y ≤ x) = b) : (binOp .geq t (.int k x) (.int k y)).run P w = .ok (.bool b) w := by subst h; simp [go_sem]
theorem run_leqB {t : TypeId} {k : IntKind} (x y : Int) (b : Bool) (h : decide (x ≤ y) = b) : (binOp .leq t (.int k x) (.int k y)).run P w = .ok (.bool b) w := by subst h; simp [go_sem]
theorem run_lssB {t : TypeId} {k : IntKind} (x y : Int) (b : Bool) (h : decide (x < y) = b) : (binOp .lss t (.int k x) (.int k y)).run P w = .ok (.bool b) w := by subst h; simp [go_sem]
theorem run_gtrB {t : TypeId} {k : IntKind} (x y : Int) (b : Bool) (h : decide (y < x) = b) : (binOp .gtr t (.int k x) (.int k y)).run P w = .ok (.bool b) w := by subst h; simp [go_sem]
theorem ob_eqlInt {t t' : TypeId} {k : IntKind} {x y : Operand} {m n : Int} (b : Bool) (ho : o.op = .binOp .eql t x y t') (hx : a.eval x = .int k m) (hy : a.eval y = .int k n) (hb : (m == n) = b)
    (hw : Region.wanted o (yielded ops a.tmps) = true) (hG : G (.bool b) w fun _ => False) : Owes P ops Q Cj O G o a w :=
  ob_run hw (by unfold execOp; rw [ho]; simp only []; rw [hx, hy]; subst hb; simp [go_sem]) hG
theorem ob_neqInt {t t' : TypeId} {k : IntKind} {x y : Operand} {m n : Int} (b : Bool) (ho : o.op = .binOp .neq t x y t') (hx : a.eval x = .int k m) (hy : a.eval y = .int k n) (hb : (m != n) = b)
    (hw : Region.wanted o (yielded ops a.tmps) = true) (hG : G (.bool b) w fun _ => False) : Owes P ops Q Cj O G o a w :=
  ob_run hw (by unfold execOp; rw [ho]; simp only []; rw [hx, hy]; subst hb; simp [go_sem]) hG
theorem ob_eqlStr {t t' : TypeId} {x y : Operand} {m n : ByteArray} (ho : o.op = .binOp .eql t x y t') (hx : a.eval x = .string m) (hy : a.eval y = .string n) (hb : m = n)
    (hw : Region.wanted o (yielded ops a.tmps) = true) (hG : G (.bool true) w fun _ => False) : Owes P ops Q Cj O G o a w :=
  ob_run hw (by unfold execOp; rw [ho]; simp only []; rw [hx, hy]; subst hb; simp [go_sem]) hG
theorem ob_neqStr {t t' : TypeId} {x y : Operand} {m n : ByteArray} (ho : o.op = .binOp .neq t x y t') (hx : a.eval x = .string m) (hy : a.eval y = .string n) (hb : m = n)
    (hw : Region.wanted o (yielded ops a.tmps) = true) (hG : G (.bool false) w fun _ => False) : Owes P ops Q Cj O G o a w :=
  ob_run hw (by unfold execOp; rw [ho]; simp only []; rw [hx, hy]; subst hb; simp [go_sem]) hG
theorem ob_eqlBool {t t' : TypeId} {x y : Operand} {m n : Bool} (b : Bool) (ho : o.op = .binOp .eql t x y t') (hx : a.eval x = .bool m) (hy : a.eval y = .bool n) (hu : P.underlying t = some .bool) (hb : (m == n) = b)
    (hw : Region.wanted o (yielded ops a.tmps) = true) (hG : G (.bool b) w fun _ => False) : Owes P ops Q Cj O G o a w :=
  ob_run hw (by unfold execOp; rw [ho]; simp only []; rw [hx, hy]; subst hb; simp [go_sem, run_eql_bool w t m n hu]) hG
theorem ob_loadInt {t : TypeId} {k : IntKind} {x : Operand} {p : Addr} {n : Int} (ho : o.op = .load t x) (hx : a.eval x = .pointer (some p)) (hu : P.underlying t = some (.int k)) (hc : w.cell? p = some (.int k n)) (hw : Region.wanted o (yielded ops a.tmps) = true) (hG : G (.int k n) w fun _ => False) : Owes P ops Q Cj O G o a w :=
  ob_run hw (by unfold execOp; rw [ho]; simp only []; rw [hx]; simp [go_sem, isAgg, run_underlying hu, hc]) hG
theorem ob_len {t e : TypeId} {x : Operand} {A : Option Addr} {n c : Nat} (ho : o.op = .call { callee := .builtin .len, args := #[x], argTypes := #[t] }) (hx : a.eval x = .slice A n c) (hu : P.underlying t = some (.slice e))
    (hw : Region.wanted o (yielded ops a.tmps) = true) (hG : G (.int .i64 n) w fun _ => False) : Owes P ops Q Cj O G o a w :=
  ob_run hw (by
    unfold execOp; rw [ho]
    simp only [resolve, invoke, builtin, Sem.run_bind, Sem.run_pure, Result.andThen_ok, List.map_toArray, List.map_cons, List.map_nil, hx]
    simp [go_sem, Builtin.len_, run_underlying hu, goInt]) hG
theorem ob_extract {x : Operand} {i : Nat} {vs : Array Value} {v : Value} (ho : o.op = .extract x i) (hx : a.eval x = .tuple vs) (hi : vs[i]? = some v) (hw : Region.wanted o (yielded ops a.tmps) = true) (hG : G v w fun _ => False) : Owes P ops Q Cj O G o a w :=
  ob_run hw (by unfold execOp; rw [ho]; simp only []; rw [hx]; simp [go_sem, hi]) hG
theorem ob_convert {s d : TypeId} {x : Operand} {vx v : Value} (ho : o.op = .convert s d x) (hx : a.eval x = vx) (hr : (convert s d vx).run P w = .ok v w) (hw : Region.wanted o (yielded ops a.tmps) = true) (hG : G v w fun _ => False) : Owes P ops Q Cj O G o a w :=
  ob_run hw (by unfold execOp; rw [ho]; simp only []; rw [hx]; simp [hr]) hG
theorem ob_sliceTo {t : TypeId} {x y : Operand} {vx vy v : Value} (hu : P.underlying t = some (.slice (P.elem t))) (ho : o.op = .slice t x none (some y) none) (hx : a.eval x = vx) (hy : a.eval y = vy) (hr : (Instr.slice t vx none (some vy) none).run P w = .ok v w) (hw : Region.wanted o (yielded ops a.tmps) = true) (hG : G v w fun _ => False) : Owes P ops Q Cj O G o a w :=
  ob_run hw (by unfold execOp; rw [ho]; simp only [Option.map_none, Option.map_some]; rw [hx, hy]; simp [run_sliceAt_slice w t _ _ _ _ hu, hr]) hG
theorem ob_sliceFrom {t : TypeId} {x y : Operand} {vx vy v : Value} (hu : P.underlying t = some (.slice (P.elem t))) (ho : o.op = .slice t x (some y) none none) (hx : a.eval x = vx) (hy : a.eval y = vy) (hr : (Instr.slice t vx (some vy) none none).run P w = .ok v w) (hw : Region.wanted o (yielded ops a.tmps) = true) (hG : G v w fun _ => False) : Owes P ops Q Cj O G o a w :=
  ob_run hw (by unfold execOp; rw [ho]; simp only [Option.map_none, Option.map_some]; rw [hx, hy]; simp [run_sliceAt_slice w t _ _ _ _ hu, hr]) hG
theorem ob_call {f : FuncId} {fn : Func} {as : Array Operand} {ts : Array TypeId} (args : Array Value) (hf : P.funcs[f]? = some fn) (hname : (fn.name == "runtime.NumGoroutine") = false) (hb : fn.body.isSome = true)
    (ho : o.op = .call { callee := .value (.func f), args := as, argTypes := ts }) (hargs : as.toList.map a.eval = args.toList) (hw : Region.wanted o (yielded ops a.tmps) = true)
    (hc : Calls P f args w fun e w' => ∃ v O', e = .returned v ∧ G v w' O' ∧ Chg (fun k => ∃ i ∈ Cj, O i k) w w' ∧ ∀ k, O' k → (∃ i ∈ Cj, O i k) ∨ (w.heap.size ≤ k ∧ k < w'.heap.size)) : Owes P ops Q Cj O G o a w := by
  unfold Owes; rw [if_pos hw]; unfold Oper.wp
  have hr : (execOp a.eval o).run P w = .ok (.enter f args) w := by
    have he := Go.Proofs.YtjlhbaohippidaaW.PrintLast.enters_ hf hname hb args w
    have hargs' : as.map a.eval = args := Array.toList_inj.1 (by simpa using hargs)
    unfold execOp
    simp [ho, resolve, Deferred.ofValue, invoke, Act.eval, hargs', he]
  rw [hr]
  refine hc.mono ?_
  rintro e w' ⟨v, O', rfl, hG, hC, hO⟩
  exact ⟨v, O', rfl, hG, hC, hO⟩
/-- By a law of the walk. -/
theorem ob_list (hw : Region.wanted o (yielded ops a.tmps) = true)
    (h : wpList P ops (fun e a' w' => e = .normal ∧ ∃ v O', a' = a.put o.dst v ∧ G v w' O' ∧ Chg (fun k => ∃ i ∈ Cj, O i k) w w' ∧ ∀ k, O' k → (∃ i ∈ Cj, O i k) ∨ (w.heap.size ≤ k ∧ k < w'.heap.size)) [{ o with guard := none }] a w) : Owes P ops Q Cj O G o a w := by
  unfold Owes; rw [if_pos hw]
  unfold wpList at h
  rw [if_pos (wanted_none rfl)] at h
  have he : execOp a.eval { o with guard := none } = execOp a.eval o := by cases o; rfl
  rcases h with h | ⟨_, _, _, h⟩
  · unfold Oper.wp at *
    rw [he] at h
    generalize (execOp a.eval o).run P w = r at *
    cases r with
    | ok n w' =>
      cases n with
      | value v => exact h.2
      | skip => exact h.2
      | defer d => exact h.2
      | enter f args =>
        refine Calls.mono h fun e w'' he => ?_
        cases e with
        | returned v => exact he.2
        | panicked c => exact absurd he.1 (by simp)
        | outgrown => obtain ⟨_, _, h, _⟩ := he; exact absurd h (by simp)
      | row r args => exact Rows.mono h fun _ _ he => he.2
      | _ => simp only [Oper.upon] at h
    | halt x w' =>
      cases x <;> simp only [Oper.upon] at h
      exact absurd h.1 (by simp)
  · exact absurd h.1 (by simp)

theorem stable_det (V : Value) : Stable B fun v _ _ => v = V := fun _ _ _ _ h _ _ => h
theorem stable_pure {p : Value → Prop} : Stable B fun v _ _ => p v := fun _ _ _ _ h _ _ => h
/-- A row of the call's own. -/
def OwnO (B : Nat) (e : TypeId) (size : Nat) (n : Nat) (xs : List Value) (v : Value) (w : World) (O : Nat → Prop) : Prop := w.ownsRow B e size v n xs ∧ ∀ k, v.ownBlock = some k → O k
theorem ownsRow_same {w w' : World} {base : Nat} {e : TypeId} {size n : Nat} {v : Value} {xs : List Value} (h : w.ownsRow base e size v n xs) (hs : ∀ k, v.ownBlock = some k → w'.heap[k]? = w.heap[k]?) : w'.ownsRow base e size v n xs := by
  obtain ⟨h1, h2⟩ := h
  refine ⟨h1, ?_⟩
  rcases h2 with h2 | ⟨g, cap, cur, hv, hg, hh, r⟩
  · exact .inl h2
  · refine .inr ⟨g, cap, cur, hv, hg, ?_, r⟩
    rw [hs g (by rw [hv]; rfl)]
    exact hh
theorem ob_callFresh {f : FuncId} {fn : Func} {as : Array Operand} {ts : Array TypeId} {e : TypeId} {size : Nat} {n : Nat} {xs : List Value} (args : Array Value) (hf : P.funcs[f]? = some fn) (hname : (fn.name == "runtime.NumGoroutine") = false) (hb : fn.body.isSome = true)
    (ho : o.op = .call { callee := .value (.func f), args := as, argTypes := ts }) (hargs : as.toList.map a.eval = args.toList) (hw : Region.wanted o (yielded ops a.tmps) = true) (hB : B ≤ w.heap.size)
    (hc : Calls P f args w fun e' w' => ∃ v, e' = .returned v ∧ w'.ownsRow w.heap.size e size v n xs ∧ Below w.heap.size w w') : Owes P ops Q Cj O (OwnO B e size n xs) o a w := by
  refine ob_call args hf hname hb ho hargs hw (hc.mono ?_)
  rintro e' w' ⟨v, rfl, h, hb⟩
  exact ⟨v, fun k => v.ownBlock = some k, rfl, ⟨own_weaken h hB, fun _ h => h⟩, Chg.of_below hb, fun k hk => .inr ⟨own_base h k hk, own_lt h k hk⟩⟩
theorem ob_callGrew {f : FuncId} {fn : Func} {as : Array Operand} {ts : Array TypeId} {e : TypeId} {size : Nat} {n : Nat} {xs : List Value} (i : Nat) (v0 : Value) (args : Array Value) (hf : P.funcs[f]? = some fn) (hname : (fn.name == "runtime.NumGoroutine") = false) (hb : fn.body.isSome = true)
    (ho : o.op = .call { callee := .value (.func f), args := as, argTypes := ts }) (hargs : as.toList.map a.eval = args.toList) (hw : Region.wanted o (yielded ops a.tmps) = true) (hi : i ∈ Cj) (hO : ∀ k, v0.ownBlock = some k → O i k)
    (hc : Calls P f args w fun e' w' => ∃ v, e' = .returned v ∧ w'.ownsRow B e size v n xs ∧ Grew v0 v w w') : Owes P ops Q Cj O (OwnO B e size n xs) o a w := by
  refine ob_call args hf hname hb ho hargs hw (hc.mono ?_)
  rintro e' w' ⟨v, rfl, h, hg⟩
  refine ⟨v, fun k => v.ownBlock = some k, rfl, ⟨h, fun _ h => h⟩, hg.1.mono fun k hk => ⟨i, hi, hO k hk⟩, fun k hk => ?_⟩
  rcases hg.2 k hk with h' | h'
  · exact .inl ⟨i, hi, hO k h'⟩
  · exact .inr ⟨h', own_lt h k hk⟩
theorem ob_listGrew {e : TypeId} {size : Nat} {n : Nat} {xs : List Value} (i : Nat) (v0 : Value) (hw : Region.wanted o (yielded ops a.tmps) = true) (hi : i ∈ Cj) (hO : ∀ k, v0.ownBlock = some k → O i k)
    (h : ∀ Q', (∀ v1 w1, w1.ownsRow B e size v1 n xs → w.grownBy w1 v0.ownBlock → (v1.ownBlock = v0.ownBlock ∨ ∃ b, v1.ownBlock = some b ∧ w.heap.size ≤ b) → wpList P ops Q' [] (a.put o.dst v1) w1) → wpList P ops Q' [{ o with guard := none }] a w) :
    Owes P ops Q Cj O (OwnO B e size n xs) o a w := by
  refine ob_list hw (h _ fun v1 w1 ho hg hat => ⟨rfl, v1, fun k => v1.ownBlock = some k, rfl, ⟨ho, fun _ h => h⟩, (Grew.of_append hg hat).1.mono fun k hk => ⟨i, hi, hO k hk⟩, fun k hk => ?_⟩)
  rcases (Grew.of_append hg hat).2 k hk with h' | h'
  · exact .inl ⟨i, hi, hO k h'⟩
  · exact .inr ⟨h', own_lt ho k hk⟩
theorem ob_empty {e : TypeId} (hr : (execOp a.eval o).run P w = .ok (.value (.slice (some ⟨w.heap.size, 0, none⟩) 0 0)) (w.alloc (.cells #[] e)))
    (hw : Region.wanted o (yielded ops a.tmps) = true) (hB : B ≤ w.heap.size) : Owes P ops Q Cj O (OwnO B e 1 0 []) o a w := by
  refine ob_new (fun k => k = w.heap.size) hw hr ((Below.refl _ _).alloc (Nat.le_refl _) _) ⟨?_, fun k hk => ?_⟩ (fun k hk => .inr ⟨by omega, by simp; omega⟩)
  · have := World.ownsRow_lit (base := B) (e := e) (size := 1) w #[] 0 hB (by simp [maxLen]) (by simp)
    simpa using this
  · simp [Value.ownBlock] at hk; omega
theorem stable_own (e : TypeId) (size n : Nat) (xs : List Value) : Stable B (OwnO B e size n xs) := by
  rintro v w w' O ⟨h, hO⟩ hz hk
  exact ⟨ownsRow_same h fun k hv => hk k (own_lt h k hv) (.inr (hO k hv)), hO⟩
end
end Go.RegionInvYtjlhbaohippidaa
