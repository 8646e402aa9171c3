/-
  The walk of Norm; a sum of a level.
-/
import Derived.Test.YtjlhbaohippidaaNfS
namespace Go.Proofs.Ytjlhbaohippidaa
open Go.RowKit Go.Proofs.YtjlhbaohippidaaW.PrintWords Go.RegionInvYtjlhbaohippidaa Go.RegionEYtjlhbaohippidaa

/-- The sum of a sound level; nothing is short of. -/
def sumP (l : Lv) : Nf := ofP [] l
def nfP (l : Lv) : Nf := if soundB l = true then shortN (sumP l) else (0, [])
theorem nfP_sound {l : Lv} (h : soundB l = true) : nfP l = shortN (sumP l) := if_pos h
theorem nfP_not {l : Lv} (h : soundB l = false) : nfP l = (0, []) := if_neg (by rw [h]; decide)
def NormPost (w : World) (f : Nf) (e : Ending) (w' : World) : Prop := ∃ A n cap, e = .returned (.tuple #[.int .i64 f.1, .slice A n cap]) ∧ n ≤ cap ∧ IntsS w' (fun b => w.heap.size ≤ b) A n f.2 ∧ Below w.heap.size w w'
theorem of_nil_calls (l : Lv) (h : soundB l = true) (A : Option Addr) (c : Nat) (w : World) (hin : LvIn w w.heap.size A c l) : Calls Try.prog 34 #[lvV A c l, .slice none 0 0] w (NfGot w (fun _ => False) (sumP l)) :=
  of_calls (fun _ => False) none 0 [] (fun _ h => by cases h) (by simp) _ l (Nat.lt_succ_self _) (good_of_sound h) A c w hin (NfsS.nil _ _ _) (fun _ h => h.elim)
theorem sumP_ok {l : Lv} (h : soundB l = true) : NfOk (sumP l) := ofP_ok (fun _ h => by cases h) (good_of_sound h)
set_option maxHeartbeats 4000000 in
theorem norm_calls (A : Option Addr) (c : Nat) (l : Lv) (w : World) (hin : LvIn w w.heap.size A c l) : Calls Try.prog 26 #[lvV A c l] w (NormPost w (nfP l)) := by
  have HIN := Aside0.mk hin
  have hl9 : l.kids.length ≤ 9223372036854775807 := by have := hin.len; omega
  clear hin
  unfold lvV
  go_enter Try.func26, Try.ntmps26
  cases hs : soundB l with
  | true =>
    have HE := Aside0.mk (nfP_sound hs)
    have HS := Aside0.mk hs
    clear hs
    go_upto_region 4 with (first
      | (go_at_call 33; go_must (refine (sound_calls A c l _ (LvS.all (HIN.out.later ((Below.refl _ _).alloc (Nat.le_refl _) _)))).mono ?_; rintro e w1 ⟨rfl, hb⟩; rw [HS.out]; have HB := Aside0.mk (below_then (below_alloc (Below.refl w.heap.size w) _) (below_alloc (Below.refl w.heap.size w) _).size hb); obtain ⟨p0, p1, p2, -, -, -⟩ := row3 (blk_below (blk_new w (.cells #[.int .i64 l.kind, .int .i64 l.num, .slice A l.kids.length c] 24 (0, 0))) hb); clear hb))
      | (go_at_call 34; go_must (refine (of_nil_calls l HS.out A c _ (LvS.all (HIN.out.later HB.out))).mono ?_; rintro e w2 ⟨A2, n2, c2, rfl, hcap2, hi2, hb⟩; have HI2 := Aside0.mk hi2; have HCAP2 := Aside0.mk hcap2; have HB2 := Aside0.mk (below_then HB.out HB.out.size hb); have HZ2 := Aside0.mk HB.out.size; clear hb hi2 hcap2))
      | (go_at_call 38; go_must (refine (short_calls (fun b => w.heap.size ≤ b) A2 n2 c2 (sumP l).1 (sumP l).2 _ (HI2.out.mono fun b hb _ => hb.elim False.elim fun h => Nat.le_trans HZ2.out h) HCAP2.out).mono ?_; rintro e w3 ⟨A3, n3, c3, rfl, hcap3, hi3, hb⟩; have HI3 := Aside0.mk hi3; have HCAP3 := Aside0.mk hcap3; have HB3 := Aside0.mk (below_then HB2.out HB2.out.size hb); have HZ3 := Aside0.mk HB2.out.size; clear hb hi3 hcap3)))
    obtain ⟨f, hf⟩ : ∃ f, f = shortN ((sumP l).1, (sumP l).2) := ⟨_, rfl⟩
    rw [← hf] at HI3 ⊢
    have HF := Aside0.mk (show f = nfP l by rw [HE.out]; exact hf)
    have hfin : NormPost w f (.returned (.tuple #[.int .i64 f.1, .slice A3 n3 c3])) (w3.alloc (.cells #[.int .i64 f.1, .slice A3 n3 c3] 52 (0, 0))) :=
      ⟨A3, n3, c3, rfl, HCAP3.out, (HI3.out.later ((Below.refl _ _).alloc (Nat.le_refl _) _)).mono fun b hb _ => hb.elim id fun h => Nat.le_trans HZ3.out h, below_alloc HB3.out _⟩
    have HFIN := Aside0.mk hfin
    obtain ⟨d0, d1, -, -⟩ := row2 (blk_new w3 (.cells #[.int .i64 f.1, .slice A3 n3 c3] 52 (0, 0)))
    clear hf hfin
    go_region_law (fail)
    all_goals go_wp2
    all_goals go_ret2
    all_goals (rw [← HF.out]; obtain ⟨A4, n4, c4, h1, h2, h3, h4⟩ := HFIN.out; exact ⟨A4, n4, c4, h1, h2, h3.later (by repeat' first | exact Below.refl _ _ | apply below_drew), below_drew h4⟩)
  | false =>
    have HE := Aside0.mk (nfP_not hs)
    have HS := Aside0.mk hs
    clear hs
    go_wp2_with (first
      | (go_at_call 33; go_must (refine (sound_calls A c l _ (LvS.all (HIN.out.later ((Below.refl _ _).alloc (Nat.le_refl _) _)))).mono ?_; rintro e w1 ⟨rfl, hb⟩; rw [HS.out]; have HB := Aside0.mk (below_then (below_alloc (Below.refl w.heap.size w) _) (below_alloc (Below.refl w.heap.size w) _).size hb); clear hb)))
    go_ret2
    rw [HE.out]
    exact ⟨none, 0, 0, rfl, Nat.le_refl _, IntsS.nil _ _, HB.out⟩
end Go.Proofs.Ytjlhbaohippidaa
