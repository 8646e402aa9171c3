/-
  The walk of Max.
-/
import Derived.Test.YtjlhbaohippidaaLvO
namespace Go.Proofs.Ytjlhbaohippidaa
open Go.RowKit Go.Proofs.YtjlhbaohippidaaW.PrintWords Go.RegionInvYtjlhbaohippidaa

theorem LvS.pair {w : World} {S : Nat → Prop} {g : Nat} {A A' : Option Addr} {c c' : Nat} {x y : Lv} {t : TypeId}
    (h : w.heap[g]? = some (.cells #[.int .i64 x.kind, .int .i64 x.num, .slice A x.kids.length c, .int .i64 y.kind, .int .i64 y.num, .slice A' y.kids.length c'] t (0, 0))) (hx : LvS w S A c x) (hy : LvS w S A' c' y) (hS : S g) (k n : Int) : LvS w S (some ⟨g, 0, none⟩) 2 (.mk k n [x, y]) := by
  have cell : ∀ (j : Nat) (v : Value), (#[.int .i64 x.kind, .int .i64 x.num, .slice A x.kids.length c, .int .i64 y.kind, .int .i64 y.num, .slice A' y.kids.length c'] : Array Value)[j]? = some v → w.cell? ((⟨g, 0, none⟩ : Addr).add j) = some v := fun j v hv => by
    rw [add_flat, cell_of_row _ _ _ _ _ _ h]; simpa using hv
  refine .mk (fun i => if i = 0 then A else A') (fun i => if i = 0 then c else c') (by simp) (by omega) (fun i z hz => ?_) (fun i z hz => ?_)
  · match i, hz with
    | 0, hz =>
      obtain rfl : x = z := by simpa using hz
      exact ⟨_, rfl, hS, rfl, cell 0 _ rfl, cell 1 _ rfl, cell 2 _ rfl⟩
    | 1, hz =>
      obtain rfl : y = z := by simpa using hz
      exact ⟨_, rfl, hS, rfl, cell 3 _ rfl, cell 4 _ rfl, cell 5 _ rfl⟩
    | i + 2, hz => simp at hz
  · match i, hz with
    | 0, hz =>
      obtain rfl : x = z := by simpa using hz
      exact hx
    | 1, hz =>
      obtain rfl : y = z := by simpa using hz
      exact hy
    | i + 2, hz => simp at hz
def mxP (a b : Lv) : Lv := .mk 4 0 [owP a, owP b]

theorem after_drew {w3 W w5 : World} (h : Below w3.heap.size w3 W) (h5 : Below W.heap.size W w5) : Below w3.heap.size w3 w5 := below_then h h.size h5
theorem got_after {w3 W w5 : World} {S : Nat → Prop} {A : Option Addr} {c : Nat} {l : Lv} (h : Below w3.heap.size w3 W) (hl : LvS w5 (fun b => S b ∨ W.heap.size ≤ b) A c l) : LvS w5 (fun b => S b ∨ w3.heap.size ≤ b) A c l :=
  hl.mono fun b hb _ => hb.imp id fun h' => Nat.le_trans h.size h'
theorem max_got {w w3 w6 : World} {S : Nat → Prop} {a b : Lv} {A5 A6 : Option Addr} {c5 c6 : Nat} {x y z : Value} {o : Obj} (ha : LvS w6 (fun b => (S b ∧ b < w.heap.size) ∨ w3.heap.size ≤ b) A5 c5 (owP a)) (hb : LvS w6 (fun b => (S b ∧ b < w.heap.size) ∨ w3.heap.size ≤ b) A6 c6 (owP b))
    (hB : Below w.heap.size w w6) (hx : w6.heap[w.heap.size + 1 + 1]? = some o) (hz : w3.heap.size = w.heap.size + 3) :
    LvGot w S (mxP a b) (.returned (.agg #[.int .i64 4, .int .i64 0, .slice (some ⟨w6.heap.size, 0, none⟩) 2 2])) ((((w6.alloc (.cells #[.int .i64 (owP a).kind, .int .i64 (owP a).num, .slice A5 (owP a).kids.length c5, .int .i64 (owP b).kind, .int .i64 (owP b).num, .slice A6 (owP b).kids.length c6] 24 (0, 0))).setCell ⟨w.heap.size + 1 + 1, 0, none⟩ x).setCell ⟨w.heap.size + 1 + 1, 1, none⟩ y).setCell ⟨w.heap.size + 1 + 1, 2, none⟩ z) := by
  have hlt := blk_lt hx
  have hc1 := chg_set3 (w6.alloc (.cells #[.int .i64 (owP a).kind, .int .i64 (owP a).num, .slice A5 (owP a).kids.length c5, .int .i64 (owP b).kind, .int .i64 (owP b).num, .slice A6 (owP b).kids.length c6] 24 (0, 0))) (w.heap.size + 1 + 1) x y z
  have hch := chg_trans (chg_alloc (fun k => k = w.heap.size + 1 + 1) w6 (.cells #[.int .i64 (owP a).kind, .int .i64 (owP a).num, .slice A5 (owP a).kids.length c5, .int .i64 (owP b).kind, .int .i64 (owP b).num, .slice A6 (owP b).kids.length c6] 24 (0, 0))) hc1
  have hn := (hc1.block w6.heap.size (by simp) (by omega)).trans (blk_new w6 _)
  have conv : ∀ {A : Option Addr} {c : Nat} {l : Lv}, LvS w6 (fun b => (S b ∧ b < w.heap.size) ∨ w3.heap.size ≤ b) A c l → LvS _ (fun b => S b ∨ w.heap.size ≤ b) A c l := fun h =>
    (h.same fun b hb hz => hch.block b hz (by omega)).mono fun b hb _ => hb.elim (fun h => .inl h.1) fun h => .inr (by omega)
  exact ⟨_, 2, rfl, LvS.pair hn (conv ha) (conv hb) (.inr (by omega)) 4 0, Chg.trans_below hB hch (fun _ e => by omega) hB.size⟩
set_option maxHeartbeats 4000000 in
theorem max_calls (S : Nat → Prop) (A A' : Option Addr) (c c' : Nat) (a b : Lv) (w : World) (ha : LvS w S A c a) (hb : LvS w S A' c' b) : Calls Try.prog 17 #[lvV A c a, lvV A' c' b] w (LvGot w S (mxP a b)) := by
  have ha2 : LvS w (fun b => S b ∧ b < w.heap.size) A c a := ha.mono fun b h1 h2 => ⟨h1, h2⟩
  have hb2 : LvS w (fun b => S b ∧ b < w.heap.size) A' c' b := hb.mono fun b h1 h2 => ⟨h1, h2⟩
  have HINA := Aside0.mk ha2
  have HINB := Aside0.mk hb2
  have hla : a.kids.length ≤ 9223372036854775807 := by have := ha.len; omega
  have hlb : b.kids.length ≤ 9223372036854775807 := by have := hb.len; omega
  clear ha hb ha2 hb2
  unfold lvV
  go_enter Try.func17, Try.ntmps17
  go_upto_region 1 with (fail)
  obtain ⟨w3, hw3⟩ : ∃ w3, w3 = ((w.alloc (.cells #[.int .i64 a.kind, .int .i64 a.num, .slice A a.kids.length c] 24 (0, 0))).alloc (.cells #[.int .i64 b.kind, .int .i64 b.num, .slice A' b.kids.length c'] 24 (0, 0))).alloc (.cells #[.int .i64 0, .int .i64 0, .slice none 0 0] 24 (0, 0)) := ⟨_, rfl⟩
  rw [← hw3]
  have hb3 : Below w.heap.size w w3 := by rw [hw3]; exact below_alloc (below_alloc (below_alloc (Below.refl _ _) _) _) _
  have hz3 : w3.heap.size = w.heap.size + 3 := by rw [hw3]; simp
  have hx0 : w3.heap[w.heap.size]? = some (.cells #[.int .i64 a.kind, .int .i64 a.num, .slice A a.kids.length c] 24 (0, 0)) := by rw [hw3]; exact blk_alloc (box0 w _ _) _
  have hx1 : w3.heap[w.heap.size + 1]? = some (.cells #[.int .i64 b.kind, .int .i64 b.num, .slice A' b.kids.length c'] 24 (0, 0)) := by rw [hw3]; exact blk_alloc (box1 w _ _) _
  have hx2 : w3.heap[w.heap.size + 1 + 1]? = some (.cells #[.int .i64 0, .int .i64 0, .slice none 0 0] 24 (0, 0)) := by
    have := blk_new ((w.alloc (.cells #[.int .i64 a.kind, .int .i64 a.num, .slice A a.kids.length c] 24 (0, 0))).alloc (.cells #[.int .i64 b.kind, .int .i64 b.num, .slice A' b.kids.length c'] 24 (0, 0))) (.cells #[.int .i64 0, .int .i64 0, .slice none 0 0] 24 (0, 0))
    rw [hw3]; simpa using this
  have HB3 := Aside0.mk hb3
  have HZ3 := Aside0.mk hz3
  have HX1 := Aside0.mk hx1
  have HX2 := Aside0.mk hx2
  obtain ⟨p0, p1, p2, -, -, -⟩ := row3 hx0
  obtain ⟨q0, q1, q2, -, -, -⟩ := row3 hx1
  clear hw3 hb3 hz3 hx0 hx1 hx2
  go_region_law (first
    | (have h5g := HB5; clear h5g; go_simp; go_at_call 37; have hb5d := below_then HB3.out HB3.out.size HB5.out; (first | refine (own_calls (fun b => S b ∧ b < w.heap.size) A' c' b w5 (HINB.out.later hb5d)).mono ?_ | refine (own_calls (fun b => S b ∧ b < w.heap.size) A' c' b w5.drew (HINB.out.later (below_drew hb5d))).mono ?_ | refine (own_calls (fun b => S b ∧ b < w.heap.size) A' c' b w5.drew.drew (HINB.out.later (below_drew (below_drew hb5d)))).mono ?_); rintro e w6 ⟨A6, c6, rfl, hl6, hb6⟩; have hl6' : LvS w6 (fun b => (S b ∧ b < w.heap.size) ∨ w5.heap.size ≤ b) A6 c6 (owP b) := hl6; have HL6 := Aside0.mk (got_after HB5.out hl6'); have hb56 : Below w5.heap.size w5 w6 := ⟨hb6.os, hb6.tape, hb6.output, hb6.size, hb6.block⟩; have HL56 := Aside0.mk (HL5.out.later hb56); have HB6 := Aside0.mk (below_then HB3.out HB3.out.size (after_drew HB5.out hb56)); have HX26 := Aside0.mk (blk_below HX25.out hb56); obtain ⟨z0, z1, z2, y0, y1, y2⟩ := row3 (blk_alloc HX26.out (.cells #[.int .i64 (owP a).kind, .int .i64 (owP a).num, .slice A5 (owP a).kids.length c5, .int .i64 (owP b).kind, .int .i64 (owP b).num, .slice A6 (owP b).kids.length c6] 24 (0, 0))); clear hl6 hl6' hb6 hb56 hb5d; simp only [lvV])
    | (go_simp; go_at_call 37; refine (own_calls (fun b => S b ∧ b < w.heap.size) A c a _ (HINA.out.later (by repeat' first | exact HB3.out | apply below_drew))).mono ?_; rintro e w5 ⟨A5, c5, rfl, hl5, hb5⟩; have HL5 : Aside0 (LvS w5 (fun b => (S b ∧ b < w.heap.size) ∨ w3.heap.size ≤ b) A5 c5 (owP a)) := ⟨hl5⟩; have hb35 : Below w3.heap.size w3 w5 := ⟨hb5.os, hb5.tape, hb5.output, hb5.size, hb5.block⟩; have HB5 := Aside0.mk hb35; have HX25 := Aside0.mk (blk_below HX2.out hb35); obtain ⟨r0, r1, r2, -, -, -⟩ := row3 (blk_below HX1.out hb35); clear hl5 hb5 hb35; simp only [lvV]))
  all_goals go_wp2
  all_goals (refine bodyPost_ret (results_c rfl _ _ (w.heap.size + 1 + 1) 24 #[.int .i64 4, .int .i64 0, .slice (some ⟨w6.heap.size, 0, none⟩) 2 2] (0, 0) _ rfl (set3 (blk_alloc HX26.out _)) Try.underlying24 rfl (by kernel_rfl)) rfl ?_)
  all_goals (exact max_got HL56.out HL6.out HB6.out HX26.out HZ3.out)
end Go.Proofs.Ytjlhbaohippidaa
