/-
  The walks of copied and own.
-/
import Derived.Test.YtjlhbaohippidaaLvK
import Derived.Deep.AppendLies
import Derived.Deep.RegionLaw
import Derived.Deep.CutBlock
namespace Go.Proofs.Ytjlhbaohippidaa
open Go.RowKit Go.Proofs.YtjlhbaohippidaaW.PrintWords Go.RegionInvYtjlhbaohippidaa

theorem infoLv : (Try.prog.info? 24).map (fun i => (i.zero, i.size, i.bytes)) = some (some (.agg #[.int .i64 0, .int .i64 0, .slice none 0 0]), 3, 40) := by kernel_rfl
/-- A level that a call gives: in memory of its own. -/
def LvPost (w : World) (l : Lv) (e : Ending) (w' : World) : Prop := ∃ A c, e = .returned (lvV A c l) ∧ LvS w' (fun b => w.heap.size ≤ b) A c l ∧ Below w.heap.size w w'

theorem cpKs_len (ks : List Lv) : (cpKs ks).length = ks.length := by rw [cpKs_map]; simp
theorem cpKs_snoc {ks : List Lv} {k : Nat} {x : Lv} (h : ks[k]? = some x) : cpKs (ks.take (k + 1)) = cpKs (ks.take k) ++ [cpP x] := by
  rw [cpKs_map, cpKs_map, List.take_add_one, h]; simp
/-- Behind the copy of a kid. -/
structure CpIn (w w5 : World) (lk n' : Int) (V : Value) (xs : List Lv) (A5 : Option Addr) (c5 : Nat) (x : Lv) : Prop where
  o : w5.heap[w.heap.size + 1 + 1]? = some (.cells #[.int .i64 lk, .int .i64 n', V] 24 (0, 0))
  res : w5.heap[w.heap.size + 1]? = some (.cells #[.int .i64 0, .int .i64 0, .slice none 0 0] 24 (0, 0))
  kids : KidsAt w5 (w.heap.size + 3) V xs
  bel : Below w.heap.size w w5
  kid : LvS w5 (fun b => w.heap.size + 3 ≤ b ∧ V.ownBlock ≠ some b) A5 c5 x
theorem CpIn.cell {w w5 : World} {lk n' : Int} {V : Value} {xs : List Lv} {A5 : Option Addr} {c5 : Nat} {x : Lv} (h : CpIn w w5 lk n' V xs A5 c5 x) : w5.cell? ⟨w.heap.size + 1 + 1, 2, none⟩ = some V := by
  rw [cell_of_row _ _ _ _ _ _ h.o]; rfl
theorem CpIn.cell2 {w w5 : World} {lk n' : Int} {V : Value} {xs : List Lv} {A5 : Option Addr} {c5 : Nat} {x : Lv} (h : CpIn w w5 lk n' V xs A5 c5 x) (ob : Obj) : (w5.alloc ob).cell? ⟨w.heap.size + 1 + 1, 2, none⟩ = some V := by
  rw [cell_of_row _ _ _ _ _ _ (blk_alloc h.o ob)]; rfl
theorem copied_in {w wr W3 w5 : World} {lk n' : Int} {V : Value} {xs : List Lv} {A5 : Option Addr} {c5 : Nat} {x : Lv} (ho : wr.heap[w.heap.size + 1 + 1]? = some (.cells #[.int .i64 lk, .int .i64 n', V] 24 (0, 0)))
    (hr : wr.heap[w.heap.size + 1]? = some (.cells #[.int .i64 0, .int .i64 0, .slice none 0 0] 24 (0, 0))) (hk : KidsAt wr (w.heap.size + 3) V xs) (hb : Below w.heap.size w wr) (hb3 : Below wr.heap.size wr W3) (hb5 : Below W3.heap.size W3 w5) (hl : LvS w5 (fun b => W3.heap.size ≤ b) A5 c5 x) : CpIn w w5 lk n' V xs A5 c5 x := by
  have hbb : Below wr.heap.size wr w5 := below_then hb3 hb3.size hb5
  have hlt := blk_lt ho
  refine ⟨blk_below ho hbb, blk_below hr hbb, hk.later hbb, below_then hb hb.size hbb, hl.mono fun b hb' _ => ⟨by have := hb3.size; omega, fun e => ?_⟩⟩
  obtain ⟨cells, fA, fc, hown, _⟩ := hk
  have := own_lt hown b e
  have := hb3.size
  omega
theorem CpIn.drew {w w5 : World} {lk n' : Int} {V : Value} {xs : List Lv} {A5 : Option Addr} {c5 : Nat} {x : Lv} (h : CpIn w w5 lk n' V xs A5 c5 x) : CpIn w w5.drew lk n' V xs A5 c5 x :=
  ⟨h.o, h.res, h.kids.later (below_drew (Below.refl _ _)), below_drew h.bel, h.kid.later (below_drew (Below.refl _ _))⟩
theorem copied_base {w w5 : World} {lk n' : Int} {V : Value} {xs : List Lv} {A5 : Option Addr} {c5 : Nat} {x : Lv} (h : CpIn w w5 lk n' V xs A5 c5 x) : w.heap.size + 3 ≤ w5.heap.size := by have := blk_lt h.o; omega
/-- Behind the append. -/
structure CpOut (w w6 : World) (lk n' : Int) (V V6 : Value) (xs : List Lv) : Prop where
  o : w6.heap[w.heap.size + 1 + 1]? = some (.cells #[.int .i64 lk, .int .i64 n', V] 24 (0, 0))
  res : w6.heap[w.heap.size + 1]? = some (.cells #[.int .i64 0, .int .i64 0, .slice none 0 0] 24 (0, 0))
  kids : KidsAt w6 (w.heap.size + 3) V6 xs
  bel : Below w.heap.size w w6
theorem CpOut.cell {w w6 : World} {lk n' : Int} {V V6 : Value} {xs : List Lv} (h : CpOut w w6 lk n' V V6 xs) : w6.cell? ⟨w.heap.size + 1 + 1, 2, none⟩ = some V := by
  rw [cell_of_row _ _ _ _ _ _ h.o]; rfl
theorem copied_push {w w5 w6 : World} {lk n' : Int} {V v6 : Value} {xs : List Lv} {A5 : Option Addr} {c5 : Nat} {x : Lv} {cells : List Value} {fA : Nat → Option Addr} {fc : Nat → Nat} (h : CpIn w w5 lk n' V xs A5 c5 x)
    (ho : w5.ownsRow (w.heap.size + 3) 24 3 V xs.length cells)
    (hk : ∀ (i : Nat) (x : Lv), xs[i]? = some x → cells[i * 3]? = some (.int .i64 x.kind) ∧ cells[i * 3 + 1]? = some (.int .i64 x.num) ∧ cells[i * 3 + 2]? = some (.slice (fA i) x.kids.length (fc i)) ∧ LvS w5 (fun b => w.heap.size + 3 ≤ b ∧ V.ownBlock ≠ some b) (fA i) (fc i) x)
    (ho1 : w6.ownsRow (w.heap.size + 3) 24 3 v6 (xs.length + 1) (cells ++ [.int .i64 x.kind, .int .i64 x.num, .slice A5 x.kids.length c5])) (hg : w5.grownBy w6 V.ownBlock) (hat : v6.ownBlock = V.ownBlock ∨ ∃ b, v6.ownBlock = some b ∧ w5.heap.size ≤ b) : CpOut w w6 lk n' V v6 (xs ++ [x]) := by
  have far : ∀ k, k < w.heap.size + 3 → some k ≠ V.ownBlock := fun k hk e => by have := own_base ho k e.symm; omega
  refine ⟨?_, ?_, KidsAt.push ho hk h.kid ho1 hg hat, ⟨hg.os.trans h.bel.os, hg.tape.trans h.bel.tape, hg.output.trans h.bel.output, Nat.le_trans h.bel.size hg.size, fun i hi => ?_⟩⟩
  · rw [hg.block _ (blk_lt h.o) (far _ (by omega))]; exact h.o
  · rw [hg.block _ (blk_lt h.res) (far _ (by omega))]; exact h.res
  · rw [hg.block i (Nat.lt_of_lt_of_le hi h.bel.size) (far i (by omega))]; exact h.bel.block i hi
theorem results_c {P : Program} {fn : Func} {p : Tmp} {ty : TypeId} (h : fn.results = #[.cell p ty]) (tmps : Array Value) (w : World) (g : Nat) (t : TypeId) (cs : Array Value) (fr : Nat × Nat) (d : TypeDesc)
    (hp : tmps.getD p undef = .pointer (some ⟨g, 0, none⟩)) (hg : w.heap[g]? = some (.cells cs t fr))
    (hu : P.underlying ty = some d) (hd : (match d with | .struct _ | .array _ _ => true | _ => false) = true) (hi : (P.info? ty).map (·.size) = some cs.size) :
    (results fn tmps).run P w = .ok (.agg cs) w := by
  have hp' : tmps[p]?.getD undef = .pointer (some ⟨g, 0, none⟩) := by simpa using hp
  simp [results, h, hp', asAddr, run_loadVar_row w g t ty cs fr d hg hu hd hi]
theorem set3 {w : World} {g : Nat} {x y z a b c : Value} {t : TypeId} (h : w.heap[g]? = some (.cells #[x, y, z] t (0, 0))) :
    (((w.setCell ⟨g, 0, none⟩ a).setCell ⟨g, 1, none⟩ b).setCell ⟨g, 2, none⟩ c).heap[g]? = some (.cells #[a, b, c] t (0, 0)) := blk_put (blk_put (blk_put h 0 a rfl) 1 b rfl) 2 c rfl
theorem chg_set3 (w : World) (g : Nat) (a b c : Value) : Chg (fun k => k = g) w (((w.setCell ⟨g, 0, none⟩ a).setCell ⟨g, 1, none⟩ b).setCell ⟨g, 2, none⟩ c) := chg_trans (chg_trans (chg_set _ _ _ _) (chg_set _ _ _ _)) (chg_set _ _ _ _)
theorem copied_fin {w w6 : World} {lk n' : Int} {V V6 : Value} {xs ys : List Lv} (h : CpOut w w6 lk n' V V6 xs) (e : ys = xs) :
    ∃ v5, Aside0 ((w6.setCell ⟨w.heap.size + 1 + 1, 2, none⟩ V6).heap[w.heap.size + 1 + 1]? = some (.cells #[.int .i64 lk, .int .i64 n', v5] 24 (0, 0))) ∧ Aside0 ((w6.setCell ⟨w.heap.size + 1 + 1, 2, none⟩ V6).heap[w.heap.size + 1]? = some (.cells #[.int .i64 0, .int .i64 0, .slice none 0 0] 24 (0, 0))) ∧
      Aside0 (KidsAt (w6.setCell ⟨w.heap.size + 1 + 1, 2, none⟩ V6) (w.heap.size + 3) v5 ys) ∧ Aside0 (Below w.heap.size w (w6.setCell ⟨w.heap.size + 1 + 1, 2, none⟩ V6)) := by
  subst e
  have hch := chg_set w6 (w.heap.size + 1 + 1) 2 V6
  exact ⟨V6, ⟨blk_put h.o 2 V6 rfl⟩, ⟨(hch.block _ (blk_lt h.res) (by omega)).trans h.res⟩, ⟨h.kids.other hch (by omega)⟩, ⟨Chg.trans_below h.bel hch (fun _ e => by omega) h.bel.size⟩⟩
set_option maxHeartbeats 4000000 in
theorem copied_calls (N : Nat) : ∀ (l : Lv), SizeOf.sizeOf l < N → Good l → ∀ (A : Option Addr) (c : Nat) (w : World), LvIn w w.heap.size A c l → Calls Try.prog 54 #[lvV A c l] w (LvPost w (cpP l)) := by
  induction N with
  | zero => intro l h; omega
  | succ N ih =>
    rintro ⟨lk, ln, ks⟩ hN hgood A c w hin
    have IH := Aside0.mk ih
    have HIN := Aside0.mk hin
    have hlen := hgood.two
    have HGOOD := Aside0.mk hgood
    clear ih hin hgood
    unfold lvV
    simp only [Lv.kind, Lv.num, Lv.kids]
    obtain ⟨m, hm⟩ : ∃ m, m = ks.length := ⟨_, rfl⟩
    rw [← hm] at hlen ⊢
    have HM := Aside0.mk hm
    clear hm
    go_enter Try.func54, Try.ntmps54
    go_upto_if 11 with (fail)
    go_cut [] (fun w2 => w2 = ((w.alloc (.cells #[.int .i64 lk, .int .i64 ln, .slice A m c] 24 (0, 0))).alloc (.cells #[.int .i64 0, .int .i64 0, .slice none 0 0] 24 (0, 0))).alloc (.cells #[.int .i64 lk, .int .i64 (if lk = 4 then 0 else ln), .slice none 0 0] 24 (0, 0)))
    case first =>
      by_cases h4 : lk = 4
      · have h4' : (lk != 4) = false := by simp [h4]
        have HZ := Aside0.mk (show (if lk = 4 then 0 else ln) = 0 from if_pos h4)
        clear h4
        go_wp2
        go_meet
        case rel => rw [HZ.out]
      · have h4' : (lk != 4) = true := by simp [h4]
        have HZ := Aside0.mk (show (if lk = 4 then 0 else ln) = ln from if_neg h4)
        clear h4
        go_wp2
        go_meet
        case rel => rw [HZ.out]
    case rest =>
      subst hcut
      obtain ⟨n', hn'⟩ : ∃ n', n' = (if lk = 4 then 0 else ln) := ⟨_, rfl⟩
      rw [← hn']
      have HN' := Aside0.mk hn'
      clear hn'
      go_wp2
      go_loopw [18] (fun i wr => ∃ (k : Nat) (V : Value), i = .int .i64 k ∧ k ≤ m ∧ Aside0 (wr.heap[w.heap.size + 1 + 1]? = some (.cells #[.int .i64 lk, .int .i64 n', V] 24 (0, 0))) ∧ Aside0 (wr.heap[w.heap.size + 1]? = some (.cells #[.int .i64 0, .int .i64 0, .slice none 0 0] 24 (0, 0))) ∧ Aside0 (KidsAt wr (w.heap.size + 3) V (cpKs (ks.take k))) ∧ Aside0 (Below w.heap.size w wr)) (fun i _ => m - (intOf i).toNat)
      case atStart =>
        have hb3 : Below w.heap.size w (((w.alloc (.cells #[.int .i64 lk, .int .i64 ln, .slice A m c] 24 (0, 0))).alloc (.cells #[.int .i64 0, .int .i64 0, .slice none 0 0] 24 (0, 0))).alloc (.cells #[.int .i64 lk, .int .i64 n', .slice none 0 0] 24 (0, 0))) := below_alloc (below_alloc (below_alloc (Below.refl _ _) _) _) _
        refine ⟨0, .slice none 0 0, rfl, Nat.zero_le _, ⟨?_⟩, ⟨?_⟩, ⟨KidsAt.nil _ _⟩, ⟨hb3⟩⟩
        · have := blk_new ((w.alloc (.cells #[.int .i64 lk, .int .i64 ln, .slice A m c] 24 (0, 0))).alloc (.cells #[.int .i64 0, .int .i64 0, .slice none 0 0] 24 (0, 0))) (.cells #[.int .i64 lk, .int .i64 n', .slice none 0 0] 24 (0, 0))
          simpa using this
        · have := blk_alloc (blk_new (w.alloc (.cells #[.int .i64 lk, .int .i64 ln, .slice A m c] 24 (0, 0))) (.cells #[.int .i64 0, .int .i64 0, .slice none 0 0] 24 (0, 0))) (.cells #[.int .i64 lk, .int .i64 n', .slice none 0 0] 24 (0, 0))
          simpa using this
      case round =>
        obtain ⟨k, V, rfl, hk, HO, HRES, HK, HB⟩ := hrel
        by_cases hlt : k < m
        · have hlt2 : k < ks.length := by rw [← HM.out]; exact hlt
          obtain ⟨x, hx⟩ : ∃ x, ks[k]? = some x := ⟨_, List.getElem?_eq_getElem hlt2⟩
          have hin2 : LvIn wr w.heap.size A c (.mk lk ln ks) := LvIn.stay HIN.out HB.out
          obtain ⟨A', c', hcs, hxin⟩ := hin2.kid k x hx
          obtain ⟨ad, rfl, hc1, hc2, hc3⟩ := hcs.facts
          have HX := Aside0.mk hx
          have HXIN := Aside0.mk hxin
          have hxk : x.kids.length ≤ 9223372036854775807 := by have := hxin.len; omega
          clear hcs hx hxin hlt2 hin2
          have hco := blk_alloc HO.out (.cells #[.int .i64 x.kind, .int .i64 x.num, .slice A' x.kids.length c'] 24 (0, 0))
          have hcv : (wr.alloc (.cells #[.int .i64 x.kind, .int .i64 x.num, .slice A' x.kids.length c'] 24 (0, 0))).cell? ⟨w.heap.size + 1 + 1, 2, none⟩ = some V := by
            rw [cell_of_row _ _ _ _ _ _ hco]; rfl
          have hcz := blk_frozen hco 2
          clear hco
          go_upto_block 1 with (fail)
          go_cut [] (fun w5 => ∃ v5, Aside0 (w5.heap[w.heap.size + 1 + 1]? = some (.cells #[.int .i64 lk, .int .i64 n', v5] 24 (0, 0))) ∧ Aside0 (w5.heap[w.heap.size + 1]? = some (.cells #[.int .i64 0, .int .i64 0, .slice none 0 0] 24 (0, 0))) ∧ Aside0 (KidsAt w5 (w.heap.size + 3) v5 (cpKs (ks.take (k + 1)))) ∧ Aside0 (Below w.heap.size w w5))
          case first =>
            go_upto_region 7 with (fail)
            go_region_law (first
              | (go_simp; go_at_call 54; refine (IH.out x (Nat.lt_of_lt_of_le (kid_small HX.out) (Nat.le_of_lt_succ hN)) (HGOOD.out.kid HX.out) A' c' _ (LvS.all (HXIN.out.later (by repeat' first | exact Below.refl _ _ | apply below_drew | apply below_alloc)))).mono ?_; rintro e w5 ⟨A5, c5, rfl, hl5, hb5⟩; have ST5 := Aside0.mk (copied_in HO.out HRES.out HK.out HB.out (by repeat' first | exact Below.refl _ _ | apply below_drew | apply below_alloc) hb5 hl5); have hcv5 := ST5.out.cell; have hcz5 := blk_frozen ST5.out.o 2; have hcw5 := ST5.out.cell2 (.cells #[.int .i64 (cpP x).kind, .int .i64 (cpP x).num, .slice A5 (cpP x).kids.length c5] 24 (0, 0)); clear hl5 hb5; simp only [lvV])
              | (first
                  | (have STA := Aside0.mk ST5.out; obtain ⟨cells, fA, fc, hown, hkids⟩ := STA.out.kids; refine step_append_cells (w0 := w5) (W := w5) (w.heap.size + 3) (by simp [Region.wanted]) (.tmp 23) (.tmp 26) 22 24 _ 3 40 rfl Try.underlying22 infoLv rfl (by decide) (by decide) V (cpKs (ks.take k)).length cells [.int .i64 (cpP x).kind, .int .i64 (cpP x).num, .slice A5 (cpP x).kids.length c5] rfl rfl rfl (by simp [Value.oneCell']) hown (Below.refl _ _) (copied_base STA.out) (by rw [cpKs_len]; simp; omega) ?_; intro v6 w6 ho6 _ hg6 hat6; obtain ⟨A6, c6, rfl⟩ := own_slice ho6; have ST6 := Aside0.mk (copied_push STA.out hown hkids ho6 hg6 hat6); have hcv6 := ST6.out.cell; have hcz6 := blk_frozen ST6.out.o 2; clear hown hkids ho6 hg6 hat6 STA)
                  | (have STA := Aside0.mk ST5.out.drew; obtain ⟨cells, fA, fc, hown, hkids⟩ := STA.out.kids; refine step_append_cells (w0 := w5.drew) (W := w5.drew) (w.heap.size + 3) (by simp [Region.wanted]) (.tmp 23) (.tmp 26) 22 24 _ 3 40 rfl Try.underlying22 infoLv rfl (by decide) (by decide) V (cpKs (ks.take k)).length cells [.int .i64 (cpP x).kind, .int .i64 (cpP x).num, .slice A5 (cpP x).kids.length c5] rfl rfl rfl (by simp [Value.oneCell']) hown (Below.refl _ _) (copied_base STA.out) (by rw [cpKs_len]; simp; omega) ?_; intro v6 w6 ho6 _ hg6 hat6; obtain ⟨A6, c6, rfl⟩ := own_slice ho6; have ST6 := Aside0.mk (copied_push STA.out hown hkids ho6 hg6 hat6); have hcv6 := ST6.out.cell; have hcz6 := blk_frozen ST6.out.o 2; clear hown hkids ho6 hg6 hat6 STA)
                  | (trace_state; fail)))
            all_goals (go_wp2; go_meet)
            all_goals (exact copied_fin ST6.out (cpKs_snoc HX.out))
          case rest =>
            clear HO HRES HK HB HXIN hc1 hc2 hc3 hcv hcz
            obtain ⟨V2, HO, HRES, HK, HB⟩ := hcut
            go_wp2
            go_roundw
            case rel => exact ⟨k + 1, V2, by go_num, by omega, HO, HRES, HK, HB⟩
            case measure => (simp [intOf]; try omega)
        · obtain rfl : k = m := by omega
          have hlt' : decide ((k : Int) < k) = false := by simp
          obtain ⟨A9, c9, rfl, hlv⟩ := HK.out.level
          have HLV := Aside0.mk hlv
          have hlen9 : (cpKs (ks.take k)).length = k := by rw [cpKs_len]; simp; have := HM.out; omega
          rw [hlen9] at HO
          have hd0 : wr.cell? ⟨w.heap.size + 1 + 1, 0, none⟩ = some (.int .i64 lk) := by rw [cell_of_row _ _ _ _ _ _ HO.out]; rfl
          have hd1 : wr.cell? ⟨w.heap.size + 1 + 1, 1, none⟩ = some (.int .i64 n') := by rw [cell_of_row _ _ _ _ _ _ HO.out]; rfl
          have hd2 : wr.cell? ⟨w.heap.size + 1 + 1, 2, none⟩ = some (.slice A9 k c9) := by rw [cell_of_row _ _ _ _ _ _ HO.out]; rfl
          have he0 : wr.cell? ⟨w.heap.size + 1, 0, none⟩ = some (.int .i64 0) := by rw [cell_of_row _ _ _ _ _ _ HRES.out]; rfl
          have he1 : wr.cell? ⟨w.heap.size + 1, 1, none⟩ = some (.int .i64 0) := by rw [cell_of_row _ _ _ _ _ _ HRES.out]; rfl
          have he2 : wr.cell? ⟨w.heap.size + 1, 2, none⟩ = some (.slice none 0 0) := by rw [cell_of_row _ _ _ _ _ _ HRES.out]; rfl
          have hf0 := blk_frozen HRES.out 0
          have hf1 := blk_frozen HRES.out 1
          have hf2 := blk_frozen HRES.out 2
          clear hlv
          go_wp2
          refine bodyPost_ret (results_c rfl _ _ (w.heap.size + 1) 24 #[.int .i64 lk, .int .i64 n', .slice A9 k c9] (0, 0) _ rfl (set3 HRES.out) Try.underlying24 rfl (by kernel_rfl)) rfl ?_
          have hch := chg_set3 wr (w.heap.size + 1) (.int .i64 lk) (.int .i64 n') (.slice A9 k c9)
          have hkk : ks.take k = ks := List.take_of_length_le (by have := HM.out; omega)
          rw [hkk] at hlen9 HLV
          have hl := HLV.out lk n'
          refine ⟨A9, c9, ?_, ?_, Chg.trans_below HB.out hch (fun _ e => by omega) HB.out.size⟩
          · show Ending.returned _ = Ending.returned (lvV A9 c9 (.mk lk (if lk = 4 then 0 else ln) (cpKs ks)))
            unfold lvV
            simp only [Lv.kind, Lv.num, Lv.kids]
            rw [← HN'.out, hlen9]
          · show LvS _ _ A9 c9 (.mk lk (if lk = 4 then 0 else ln) (cpKs ks))
            rw [← HN'.out]
            exact (hl.same fun b hb hz => hch.block b hz (by omega)).mono fun b hb _ => by omega
end Go.Proofs.Ytjlhbaohippidaa
