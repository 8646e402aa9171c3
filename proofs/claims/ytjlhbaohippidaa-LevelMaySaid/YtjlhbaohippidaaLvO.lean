/-
  The walks of own, Num, Var, Max, Plus.
-/
import Derived.Test.YtjlhbaohippidaaLvC
namespace Go.Proofs.Ytjlhbaohippidaa
open Go.RowKit Go.Proofs.YtjlhbaohippidaaW.PrintWords Go.RegionInvYtjlhbaohippidaa

/-- What own gives. -/
def owP (l : Lv) : Lv := if soundB l = true then cpP l else l
theorem owP_sound {l : Lv} (h : soundB l = true) : owP l = cpP l := if_pos h
theorem owP_not {l : Lv} (h : soundB l = false) : owP l = l := if_neg (by simp [h])
/-- A level that a call gives. -/
def LvGot (w : World) (S : Nat → Prop) (l : Lv) (e : Ending) (w' : World) : Prop := ∃ A c, e = .returned (lvV A c l) ∧ LvS w' (fun b => S b ∨ w.heap.size ≤ b) A c l ∧ Below w.heap.size w w'
theorem two_boxes {w : World} (o o' : Obj) : Below w.heap.size w ((w.alloc o).alloc o') := below_alloc (below_alloc (Below.refl _ _) _) _

theorem row3 {w : World} {g : Nat} {a b c : Value} {t : TypeId} (h : w.heap[g]? = some (.cells #[a, b, c] t (0, 0))) :
    w.cell? ⟨g, 0, none⟩ = some a ∧ w.cell? ⟨g, 1, none⟩ = some b ∧ w.cell? ⟨g, 2, none⟩ = some c ∧ w.frozen? ⟨g, 0, none⟩ = false ∧ w.frozen? ⟨g, 1, none⟩ = false ∧ w.frozen? ⟨g, 2, none⟩ = false := by
  refine ⟨?_, ?_, ?_, blk_frozen h 0, blk_frozen h 1, blk_frozen h 2⟩ <;> (rw [cell_of_row _ _ _ _ _ _ h]; rfl)
theorem box0 (w : World) (o o' : Obj) : ((w.alloc o).alloc o').heap[w.heap.size]? = some o := blk_alloc (blk_new w o) o'
theorem box1 (w : World) (o o' : Obj) : ((w.alloc o).alloc o').heap[w.heap.size + 1]? = some o' := by
  have := blk_new (w.alloc o) o'
  simpa using this

set_option maxHeartbeats 2000000 in
theorem own_calls (S : Nat → Prop) (A : Option Addr) (c : Nat) (l : Lv) (w : World) (hin : LvS w S A c l) : Calls Try.prog 37 #[lvV A c l] w (LvGot w S (owP l)) := by
  have HIN := Aside0.mk hin
  have hl9 : l.kids.length ≤ 9223372036854775807 := by have := hin.len; omega
  clear hin
  unfold lvV
  go_enter Try.func37, Try.ntmps37
  cases hs : soundB l with
  | true =>
    have HE := Aside0.mk (owP_sound hs)
    have HG := Aside0.mk (good_of_sound hs)
    have HS := Aside0.mk hs
    clear hs
    go_wp2_with (first
      | (go_at_call 33; go_must (refine (sound_calls A c l _ (LvS.all (HIN.out.later (two_boxes _ _)))).mono ?_; rintro e w1 ⟨rfl, hb⟩; rw [HS.out]; have HB := Aside0.mk (below_then (two_boxes _ _) (two_boxes _ _).size hb); have HX1 := Aside0.mk (blk_below (box1 w _ _) hb); obtain ⟨p0, p1, p2, -, -, -⟩ := row3 (blk_below (box0 w _ _) hb); clear hb))
      | (go_at_call 54; go_must (refine (copied_calls _ l (Nat.lt_succ_self _) HG.out A c _ (LvS.all (HIN.out.later HB.out))).mono ?_; rintro e w2 ⟨A2, c2, rfl, hl2, hb⟩; have HL2 := Aside0.mk hl2; have HB2 := Aside0.mk (below_then HB.out HB.out.size hb); have HX2 := Aside0.mk (blk_below HX1.out hb); have hsz := HB.out.size; have hsz2 := blk_lt HX1.out; obtain ⟨q0, q1, q2, z0, z1, z2⟩ := row3 HX2.out; clear hb hl2; simp only [lvV])))
    refine bodyPost_ret (results_c rfl _ _ (w.heap.size + 1) 24 #[.int .i64 (cpP l).kind, .int .i64 (cpP l).num, .slice A2 (cpP l).kids.length c2] (0, 0) _ rfl (set3 HX2.out) Try.underlying24 rfl (by kernel_rfl)) rfl ?_
    have hch := chg_set3 w2 (w.heap.size + 1) (.int .i64 (cpP l).kind) (.int .i64 (cpP l).num) (.slice A2 (cpP l).kids.length c2)
    exact ⟨A2, c2, by rw [HE.out]; rfl, by rw [HE.out]; exact (HL2.out.same fun b hb hz => hch.block b hz (by omega)).mono fun b hb _ => .inr (by omega), Chg.trans_below HB2.out hch (fun _ e => by omega) HB2.out.size⟩
  | false =>
    have HE := Aside0.mk (owP_not hs)
    have HS := Aside0.mk hs
    clear hs
    go_wp2_with (first
      | (go_at_call 33; go_must (refine (sound_calls A c l _ (LvS.all (HIN.out.later (two_boxes _ _)))).mono ?_; rintro e w1 ⟨rfl, hb⟩; rw [HS.out]; have HB := Aside0.mk (below_then (two_boxes _ _) (two_boxes _ _).size hb); have HX1 := Aside0.mk (blk_below (box1 w _ _) hb); obtain ⟨p0, p1, p2, -, -, -⟩ := row3 (blk_below (box0 w _ _) hb); obtain ⟨q0, q1, q2, z0, z1, z2⟩ := row3 HX1.out; clear hb)))
    refine bodyPost_ret (results_c rfl _ _ (w.heap.size + 1) 24 #[.int .i64 l.kind, .int .i64 l.num, .slice A l.kids.length c] (0, 0) _ rfl (set3 HX1.out) Try.underlying24 rfl (by kernel_rfl)) rfl ?_
    have hch := chg_set3 w1 (w.heap.size + 1) (.int .i64 l.kind) (.int .i64 l.num) (.slice A l.kids.length c)
    have hfin := Chg.trans_below HB.out hch (fun _ e => by omega) HB.out.size
    exact ⟨A, c, by rw [HE.out]; rfl, by rw [HE.out]; exact (HIN.out.later hfin).mono fun b hb _ => .inl hb, hfin⟩
theorem LvS.leaf (w : World) (S : Nat → Prop) (k n : Int) : LvS w S none 0 (.mk k n []) := .mk (fun _ => none) (fun _ => 0) (by simp) (by omega) (fun i x h => by simp at h) (fun i x h => by simp at h)
set_option maxHeartbeats 2000000 in
theorem num_calls (S : Nat → Prop) (n : Int) (w : World) : Calls Try.prog 31 #[.int .i64 n] w (LvGot w S (.mk 1 n [])) := by
  go_enter Try.func31, Try.ntmps31
  go_wp2
  refine bodyPost_ret (results_c rfl _ _ w.heap.size 24 #[.int .i64 1, .int .i64 n, .slice none 0 0] (0, 0) _ rfl (blk_new w _) Try.underlying24 rfl (by kernel_rfl)) rfl ?_
  exact ⟨none, 0, rfl, LvS.leaf _ _ _ _, below_alloc (Below.refl _ _) _⟩
set_option maxHeartbeats 2000000 in
theorem var_calls (S : Nat → Prop) (n : Int) (w : World) : Calls Try.prog 32 #[.int .i64 n] w (LvGot w S (.mk 2 n [])) := by
  go_enter Try.func32, Try.ntmps32
  go_wp2
  refine bodyPost_ret (results_c rfl _ _ w.heap.size 24 #[.int .i64 2, .int .i64 n, .slice none 0 0] (0, 0) _ rfl (blk_new w _) Try.underlying24 rfl (by kernel_rfl)) rfl ?_
  exact ⟨none, 0, rfl, LvS.leaf _ _ _ _, below_alloc (Below.refl _ _) _⟩
def plP (n : Int) (l : Lv) : Lv := if n < 1 then owP l else if l.kind = 3 then .mk (owP l).kind (min 1099511627776 (min 1099511627776 n + min 1099511627776 l.num)) (owP l).kids else .mk 3 n [owP l]
theorem plP_own {n : Int} {l : Lv} (h : n < 1) : plP n l = owP l := if_pos h
theorem plP_succ {n : Int} {l : Lv} (h : ¬ n < 1) (h3 : l.kind = 3) : plP n l = .mk (owP l).kind (min 1099511627776 (min 1099511627776 n + min 1099511627776 l.num)) (owP l).kids := (if_neg h).trans (if_pos h3)
theorem plP_new {n : Int} {l : Lv} (h : ¬ n < 1) (h3 : ¬ l.kind = 3) : plP n l = .mk 3 n [owP l] := (if_neg h).trans (if_neg h3)
theorem got_two {w w2 : World} {S : Nat → Prop} {o o' : Obj} {A : Option Addr} {c : Nat} {l : Lv} (h : LvS w2 (fun b => (S b ∧ b < w.heap.size) ∨ ((w.alloc o).alloc o').heap.size ≤ b) A c l) : LvS w2 (fun b => (S b ∧ b < w.heap.size) ∨ w.heap.size + 2 ≤ b) A c l :=
  h.mono fun b hb _ => hb.elim .inl fun h => .inr (by simp at h; omega)
theorem got_all {w w2 : World} {S : Nat → Prop} {A : Option Addr} {c : Nat} {l : Lv} (h : LvS w2 (fun b => (S b ∧ b < w.heap.size) ∨ w.heap.size + 2 ≤ b) A c l) : LvS w2 (fun b => S b ∨ w.heap.size ≤ b) A c l :=
  h.mono fun b hb _ => hb.elim (fun h => .inl h.1) fun h => .inr (by omega)
theorem got_chg {w w2 w3 : World} {S : Nat → Prop} {A : Option Addr} {c : Nat} {l : Lv} (h : LvS w2 (fun b => (S b ∧ b < w.heap.size) ∨ w.heap.size + 2 ≤ b) A c l) (hc : Chg (fun k => k = w.heap.size + 1) w2 w3) : LvS w3 (fun b => (S b ∧ b < w.heap.size) ∨ w.heap.size + 2 ≤ b) A c l :=
  h.same fun b hb hz => hc.block b hz (by omega)
theorem LvS.renum {w : World} {S : Nat → Prop} {A : Option Addr} {c : Nat} {l : Lv} (h : LvS w S A c l) (k n : Int) : LvS w S A c (.mk k n l.kids) := by
  cases h with
  | mk fA fc hc hm hcell hk => exact .mk fA fc hc hm hcell hk
theorem LvS.one {w : World} {S : Nat → Prop} {g : Nat} {A : Option Addr} {c : Nat} {x : Lv} {t : TypeId} (h : w.heap[g]? = some (.cells #[.int .i64 x.kind, .int .i64 x.num, .slice A x.kids.length c] t (0, 0))) (hx : LvS w S A c x) (hS : S g) (k n : Int) : LvS w S (some ⟨g, 0, none⟩) 1 (.mk k n [x]) := by
  obtain ⟨h0, h1, h2, _⟩ := row3 h
  refine .mk (fun _ => A) (fun _ => c) (by simp) (by omega) (fun i y hy => ?_) (fun i y hy => ?_)
  · cases i with
    | zero =>
      obtain rfl : x = y := by simpa using hy
      exact ⟨_, rfl, hS, rfl, by rw [add_flat]; exact h0, by rw [add_flat]; exact h1, by rw [add_flat]; exact h2⟩
    | succ i => simp at hy
  · cases i with
    | zero =>
      obtain rfl : x = y := by simpa using hy
      exact hx
    | succ i => simp at hy
theorem set3_size (w : World) (g : Nat) (a b c : Value) : (((w.setCell ⟨g, 0, none⟩ a).setCell ⟨g, 1, none⟩ b).setCell ⟨g, 2, none⟩ c).heap.size = w.heap.size := by simp [World.setCell]
theorem plus_got {w w2 : World} {S : Nat → Prop} {l l' : Lv} {x : Int} {A2 : Option Addr} {c2 : Nat} {o : Obj} {a b c : Value} (h : LvS w2 (fun b => (S b ∧ b < w.heap.size) ∨ w.heap.size + 2 ≤ b) A2 c2 l) (e : l' = .mk l.kind x l.kids) (hb : Below w.heap.size w w2) :
    LvGot w S l' (.returned (.agg #[.int .i64 l.kind, .int .i64 x, .slice A2 l.kids.length c2])) ((((w2.setCell ⟨w.heap.size + 1, 0, none⟩ a).setCell ⟨w.heap.size + 1, 1, none⟩ b).setCell ⟨w.heap.size + 1, 2, none⟩ c).alloc o) := by
  subst e
  have hch := chg_trans (chg_set3 w2 (w.heap.size + 1) a b c) (chg_alloc _ _ o)
  exact ⟨A2, c2, rfl, got_all ((got_chg h hch).renum _ _), Chg.trans_below hb hch (fun _ e => by omega) hb.size⟩
theorem plus_new {w w2 : World} {S : Nat → Prop} {l l' : Lv} {k n : Int} {A2 : Option Addr} {c2 : Nat} {a b c : Value} (h : LvS w2 (fun b => (S b ∧ b < w.heap.size) ∨ w.heap.size + 2 ≤ b) A2 c2 l) (e : l' = .mk k n [l]) (hb : Below w.heap.size w w2) (hz : w.heap.size + 1 < w2.heap.size) :
    LvGot w S l' (.returned (.agg #[.int .i64 k, .int .i64 n, .slice (some ⟨w2.heap.size, 0, none⟩) 1 1])) ((((w2.setCell ⟨w.heap.size + 1, 0, none⟩ a).setCell ⟨w.heap.size + 1, 1, none⟩ b).setCell ⟨w.heap.size + 1, 2, none⟩ c).alloc (.cells #[.int .i64 l.kind, .int .i64 l.num, .slice A2 l.kids.length c2] 24 (0, 0))) := by
  subst e
  have hch := chg_trans (chg_set3 w2 (w.heap.size + 1) a b c) (chg_alloc _ _ (.cells #[.int .i64 l.kind, .int .i64 l.num, .slice A2 l.kids.length c2] 24 (0, 0)))
  have hn := blk_new (((w2.setCell ⟨w.heap.size + 1, 0, none⟩ a).setCell ⟨w.heap.size + 1, 1, none⟩ b).setCell ⟨w.heap.size + 1, 2, none⟩ c) (.cells #[.int .i64 l.kind, .int .i64 l.num, .slice A2 l.kids.length c2] 24 (0, 0))
  rw [set3_size] at hn
  exact ⟨_, 1, rfl, got_all (LvS.one hn (got_chg h hch) (.inr (by omega)) k n), Chg.trans_below hb hch (fun _ e => by omega) hb.size⟩
set_option maxHeartbeats 2000000 in
theorem plus_calls (S : Nat → Prop) (n : Int) (A : Option Addr) (c : Nat) (l : Lv) (w : World) (hin : LvS w S A c l) (hn : n ≤ 9223372036854775807) (hl0 : -9223372036854775808 ≤ l.num) : Calls Try.prog 20 #[.int .i64 n, lvV A c l] w (LvGot w S (plP n l)) := by
  have hin2 : LvS w (fun b => S b ∧ b < w.heap.size) A c l := hin.mono fun b h1 h2 => ⟨h1, h2⟩
  have HIN := Aside0.mk hin2
  have hl9 : l.kids.length ≤ 9223372036854775807 := by have := hin.len; omega
  clear hin hin2
  unfold lvV
  go_enter Try.func20, Try.ntmps20
  by_cases h1 : n < 1
  · have HE := Aside0.mk (plP_own (l := l) h1)
    go_wp2_with (first
      | (go_at_call 37; go_must (refine (own_calls (fun b => S b ∧ b < w.heap.size) A c l _ (HIN.out.later (two_boxes _ _))).mono ?_; rintro e w2 ⟨A2, c2, rfl, hl2, hb⟩; have HL2 := Aside0.mk (got_two hl2); have HB2 := Aside0.mk (below_then (two_boxes _ _) (two_boxes _ _).size hb); have HX2 := Aside0.mk (blk_below (box1 w _ _) hb); have hsz2 := blk_lt HX2.out; obtain ⟨p0, p1, p2, -, -, -⟩ := row3 (blk_below (box0 w _ _) hb); obtain ⟨q0, q1, q2, z0, z1, z2⟩ := row3 HX2.out; obtain ⟨r0, r1, r2, y0, y1, y2⟩ := row3 (blk_alloc HX2.out (.cells #[.int .i64 (owP l).kind, .int .i64 (owP l).num, .slice A2 (owP l).kids.length c2] 24 (0, 0))); obtain ⟨s0, s1, s2, -, -, -⟩ := row3 (blk_alloc (blk_below (box0 w _ _) hb) (.cells #[.int .i64 (owP l).kind, .int .i64 (owP l).num, .slice A2 (owP l).kids.length c2] 24 (0, 0))); clear hb hl2; simp only [lvV])))
    refine bodyPost_ret (results_c rfl _ _ (w.heap.size + 1) 24 #[.int .i64 (owP l).kind, .int .i64 (owP l).num, .slice A2 (owP l).kids.length c2] (0, 0) _ rfl (set3 HX2.out) Try.underlying24 rfl (by kernel_rfl)) rfl ?_
    have hch := chg_set3 w2 (w.heap.size + 1) (.int .i64 (owP l).kind) (.int .i64 (owP l).num) (.slice A2 (owP l).kids.length c2)
    exact ⟨A2, c2, by rw [HE.out]; rfl, by rw [HE.out]; exact got_all (got_chg HL2.out hch), Chg.trans_below HB2.out hch (fun _ e => by omega) HB2.out.size⟩
  · by_cases h3 : l.kind = 3
    · have h3' : (l.kind == 3) = true := by simp [h3]
      have HE := Aside0.mk (plP_succ h1 h3)
      clear h3
      go_wp2_with (first
        | (go_at_call 37; go_must (refine (own_calls (fun b => S b ∧ b < w.heap.size) A c l _ (HIN.out.later (two_boxes _ _))).mono ?_; rintro e w2 ⟨A2, c2, rfl, hl2, hb⟩; have HL2 := Aside0.mk (got_two hl2); have HB2 := Aside0.mk (below_then (two_boxes _ _) (two_boxes _ _).size hb); have HX2 := Aside0.mk (blk_below (box1 w _ _) hb); have hsz2 := blk_lt HX2.out; obtain ⟨p0, p1, p2, -, -, -⟩ := row3 (blk_below (box0 w _ _) hb); obtain ⟨q0, q1, q2, z0, z1, z2⟩ := row3 HX2.out; obtain ⟨r0, r1, r2, y0, y1, y2⟩ := row3 (blk_alloc HX2.out (.cells #[.int .i64 (owP l).kind, .int .i64 (owP l).num, .slice A2 (owP l).kids.length c2] 24 (0, 0))); obtain ⟨s0, s1, s2, -, -, -⟩ := row3 (blk_alloc (blk_below (box0 w _ _) hb) (.cells #[.int .i64 (owP l).kind, .int .i64 (owP l).num, .slice A2 (owP l).kids.length c2] 24 (0, 0))); clear hb hl2; simp only [lvV])))
      all_goals (refine bodyPost_ret (results_c rfl _ _ (w.heap.size + 1) 24 _ (0, 0) _ rfl (blk_alloc (set3 HX2.out) _) Try.underlying24 rfl (by kernel_rfl)) rfl ?_)
      all_goals (refine plus_got HL2.out ?_ HB2.out)
      all_goals (rw [HE.out]; congr 1; (try simp only [wrap64] at *); omega)
    · have h3' : (l.kind == 3) = false := by simp [h3]
      have HE := Aside0.mk (plP_new h1 h3)
      clear h3
      go_wp2_with (first
        | (go_at_call 37; go_must (refine (own_calls (fun b => S b ∧ b < w.heap.size) A c l _ (HIN.out.later (two_boxes _ _))).mono ?_; rintro e w2 ⟨A2, c2, rfl, hl2, hb⟩; have HL2 := Aside0.mk (got_two hl2); have HB2 := Aside0.mk (below_then (two_boxes _ _) (two_boxes _ _).size hb); have HX2 := Aside0.mk (blk_below (box1 w _ _) hb); have hsz2 := blk_lt HX2.out; obtain ⟨p0, p1, p2, -, -, -⟩ := row3 (blk_below (box0 w _ _) hb); obtain ⟨q0, q1, q2, z0, z1, z2⟩ := row3 HX2.out; obtain ⟨r0, r1, r2, y0, y1, y2⟩ := row3 (blk_alloc HX2.out (.cells #[.int .i64 (owP l).kind, .int .i64 (owP l).num, .slice A2 (owP l).kids.length c2] 24 (0, 0))); obtain ⟨s0, s1, s2, -, -, -⟩ := row3 (blk_alloc (blk_below (box0 w _ _) hb) (.cells #[.int .i64 (owP l).kind, .int .i64 (owP l).num, .slice A2 (owP l).kids.length c2] 24 (0, 0))); clear hb hl2; simp only [lvV])))
      all_goals (refine bodyPost_ret (results_c rfl _ _ (w.heap.size + 1) 24 _ (0, 0) _ rfl (blk_alloc (set3 HX2.out) _) Try.underlying24 rfl (by kernel_rfl)) rfl ?_)
      all_goals (refine plus_new HL2.out HE.out HB2.out hsz2)
end Go.Proofs.Ytjlhbaohippidaa
