/-
  What more operations of a region owe.
-/
import Derived.Test.YtjlhbaohippidaaOps
namespace Go.RegionInvYtjlhbaohippidaa
open Go.RowKit Go.Proofs.YtjlhbaohippidaaW.PrintWords

section
variable {P : Program} {ops : Array Oper} {Q : Exit → Act → World → Prop} {B : Nat} {Cj : List Nat} {O : Nat → Nat → Prop} {G : Value → World → (Nat → Prop) → Prop} {a : Act} {w : World} {o : Oper}

theorem ob_indexAddr {t e : TypeId} {x y : Operand} {p : Addr} {n c i bytes : Nat} {z : Value} (ho : o.op = .indexAddr t x y) (hx : a.eval x = .slice (some p) n c) (hy : a.eval y = .int .i64 i) (hu : P.underlying t = some (.slice e)) (hi : i < n)
    (hinfo : (P.info? e).map (fun i => (i.zero, i.size, i.bytes)) = some (some z, 1, bytes)) (hw : Region.wanted o (yielded ops a.tmps) = true) (hG : G (.pointer (some (p.add i))) w fun _ => False) : Owes P ops Q Cj O G o a w :=
  ob_run hw (by
    have hel : P.elem t = e := by simp [Program.elem, hu]
    obtain ⟨j, hj, hz⟩ := Option.map_eq_some_iff.1 hinfo
    have hs : j.size = 1 := by injection hz with _ hz; injection hz
    unfold execOp; rw [ho]; simp only []; rw [hx, hy]
    simp only [Sem.run_bind, Result.andThen_ok]
    rw [run_indexAt_slice w t p n c .i64 i (by rw [hel]; exact hu), if_pos (by omega), hel]
    simp [sizeOf, typeInfo, hj, hs, Result.andThen]) hG
theorem ob_loadSlice {t e : TypeId} {x : Operand} {p : Addr} {A : Option Addr} {n c : Nat} (ho : o.op = .load t x) (hx : a.eval x = .pointer (some p)) (hu : P.underlying t = some (.slice e)) (hc : w.cell? p = some (.slice A n c)) (hw : Region.wanted o (yielded ops a.tmps) = true) (hG : G (.slice A n c) w fun _ => False) : Owes P ops Q Cj O G o a w :=
  ob_run hw (by unfold execOp; rw [ho]; simp only []; rw [hx]; simp [go_sem, isAgg, run_underlying hu, hc]) hG
end
end Go.RegionInvYtjlhbaohippidaa
