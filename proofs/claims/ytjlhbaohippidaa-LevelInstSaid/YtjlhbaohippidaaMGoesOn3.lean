/-
  Merged: LvlW, OpsV, Sim, SmR, Same, Red, OpsR.
-/
import Derived.Test.YtjlhbaohippidaaMGoesOn2
/-! LvlW -/
namespace Go.Proofs.Ytjlhbaohippidaa
open Go.RowKit Go.Proofs.YtjlhbaohippidaaW.PrintWords Go.RegionInvYtjlhbaohippidaa Go.RegionEYtjlhbaohippidaa

/-- The parts so far, in a row V of the call's own; the boxes of the sum and of the result. -/
structure PK (w wr : World) (c : Int) (B : Value) (V : Value) (xs : List Lv) : Prop where
  x1 : wr.heap[w.heap.size]? = some (.cells #[.int .i64 c, B] 52 (0, 0))
  x2 : wr.heap[w.heap.size + 1]? = some (.cells #[.int .i64 0, .int .i64 0, .slice none 0 0] 24 (0, 0))
  kids : KidsAt wr (w.heap.size + 2) V xs
  bel : Below w.heap.size w wr
theorem PK.later {w wr w' : World} {c : Int} {B V : Value} {xs : List Lv} (h : PK w wr c B V xs) (hb : Below wr.heap.size wr w') : PK w w' c B V xs :=
  ⟨blk_below h.x1 hb, blk_below h.x2 hb, h.kids.later hb, below_then h.bel h.bel.size hb⟩
theorem PK.base {w wr : World} {c : Int} {B V : Value} {xs : List Lv} (h : PK w wr c B V xs) : w.heap.size + 2 ≤ wr.heap.size := by have := blk_lt h.x2; omega
theorem pk_push {w w5 w6 : World} {c : Int} {B V v6 : Value} {xs : List Lv} {A5 : Option Addr} {c5 : Nat} {x : Lv} {cells : List Value} {fA : Nat → Option Addr} {fc : Nat → Nat} (h : PK w w5 c B V xs)
    (ho : w5.ownsRow (w.heap.size + 2) 24 3 V xs.length cells)
    (hk : ∀ (i : Nat) (x : Lv), xs[i]? = some x → cells[i * 3]? = some (.int .i64 x.kind) ∧ cells[i * 3 + 1]? = some (.int .i64 x.num) ∧ cells[i * 3 + 2]? = some (.slice (fA i) x.kids.length (fc i)) ∧ LvS w5 (fun b => w.heap.size + 2 ≤ b ∧ V.ownBlock ≠ some b) (fA i) (fc i) x)
    (hl : LvS w5 (fun b => w.heap.size + 2 ≤ b ∧ V.ownBlock ≠ some b) A5 c5 x)
    (ho1 : w6.ownsRow (w.heap.size + 2) 24 3 v6 (xs.length + 1) (cells ++ [.int .i64 x.kind, .int .i64 x.num, .slice A5 x.kids.length c5])) (hg : w5.grownBy w6 V.ownBlock) (hat : v6.ownBlock = V.ownBlock ∨ ∃ b, v6.ownBlock = some b ∧ w5.heap.size ≤ b) : PK w w6 c B v6 (xs ++ [x]) := by
  have far : ∀ k, k < w.heap.size + 2 → some k ≠ V.ownBlock := fun k hk e => by have := own_base ho k e.symm; omega
  refine ⟨?_, ?_, KidsAt.push ho hk hl ho1 hg hat, ⟨hg.os.trans h.bel.os, hg.tape.trans h.bel.tape, hg.output.trans h.bel.output, Nat.le_trans h.bel.size hg.size, fun i hi => ?_⟩⟩
  · rw [hg.block _ (blk_lt h.x1) (far _ (by omega))]; exact h.x1
  · rw [hg.block _ (blk_lt h.x2) (far _ (by omega))]; exact h.x2
  · rw [hg.block i (Nat.lt_of_lt_of_le hi h.bel.size) (far i (by omega))]; exact h.bel.block i hi
theorem leafS {w : World} {S S' : Nat → Prop} {A : Option Addr} {c : Nat} {k n : Int} (h : LvS w S A c (.mk k n [])) : LvS w S' A c (.mk k n []) := by
  cases h with
  | mk fA fc hc hm hcell hk => exact .mk fA fc hc hm (fun i x hx => by simp at hx) (fun i x hx => by simp at hx)
theorem fresh_away {w wr w5 : World} {c : Int} {B V : Value} {xs : List Lv} {A : Option Addr} {c5 : Nat} {x : Lv} {m : Nat} (h : PK w wr c B V xs) (hm : wr.heap.size ≤ m) (hl : LvS w5 (fun b => False ∨ m ≤ b) A c5 x) : LvS w5 (fun b => w.heap.size + 2 ≤ b ∧ V.ownBlock ≠ some b) A c5 x := by
  have hb := h.base
  obtain ⟨cells, fA, fc, ho, _⟩ := h.kids
  refine hl.mono fun b hb' _ => ?_
  rcases hb' with hb' | hb'
  · exact hb'.elim
  · exact ⟨by omega, fun e => by have := own_lt ho b e; omega⟩
/-- What is out so far, in its box p. -/
structure OutB (lo : Nat) (wc wr : World) (y : Lv) (A : Option Addr) (c : Nat) : Prop where
  box : wr.heap[wc.heap.size]? = some (.cells #[.int .i64 y.kind, .int .i64 y.num, .slice A y.kids.length c] 24 (0, 0))
  lv : LvS wr (fun b => lo ≤ b ∧ b ≠ wc.heap.size) A c y
  bel : Below wc.heap.size wc wr
theorem outb_next {lo : Nat} {wc wr : World} {o q : Lv} {A6 A7 : Option Addr} {c6 c7 : Nat} (h : OutB lo wc wr o A6 c6) (hlo : lo ≤ wc.heap.size) (hq : LvS wc (fun b => lo ≤ b) A7 c7 q) :
    OutB lo wc (((((wr.setCell ⟨wc.heap.size, 0, none⟩ (.int .i64 4)).setCell ⟨wc.heap.size, 1, none⟩ (.int .i64 0)).setCell ⟨wc.heap.size, 2, none⟩ (.slice (some ⟨wr.heap.size + 1, 0, none⟩) 2 2)).alloc (.cells #[.int .i64 q.kind, .int .i64 q.num, .slice A7 q.kids.length c7] 24 (0, 0))).alloc
      (.cells #[.int .i64 o.kind, .int .i64 o.num, .slice A6 o.kids.length c6, .int .i64 q.kind, .int .i64 q.num, .slice A7 q.kids.length c7] 24 (0, 0))) (.mk 4 0 [o, q]) (some ⟨wr.heap.size + 1, 0, none⟩) 2 := by
  have hpz := blk_lt h.box
  have hs3 := set3 (a := .int .i64 4) (b := .int .i64 0) (c := .slice (some ⟨wr.heap.size + 1, 0, none⟩) 2 2) h.box
  have hc3 := chg_set3 wr wc.heap.size (.int .i64 4) (.int .i64 0) (.slice (some ⟨wr.heap.size + 1, 0, none⟩) 2 2)
  obtain ⟨w1, hw1⟩ : ∃ w1, w1 = ((wr.setCell ⟨wc.heap.size, 0, none⟩ (.int .i64 4)).setCell ⟨wc.heap.size, 1, none⟩ (.int .i64 0)).setCell ⟨wc.heap.size, 2, none⟩ (.slice (some ⟨wr.heap.size + 1, 0, none⟩) 2 2) := ⟨_, rfl⟩
  have hz1 : w1.heap.size = wr.heap.size := by rw [hw1]; simp [World.setCell]
  rw [← hw1] at hs3 hc3 ⊢
  clear hw1
  have hch := chg_trans (chg_trans hc3 (chg_alloc _ w1 (.cells #[.int .i64 q.kind, .int .i64 q.num, .slice A7 q.kids.length c7] 24 (0, 0)))) (chg_alloc _ _ (.cells #[.int .i64 o.kind, .int .i64 o.num, .slice A6 o.kids.length c6, .int .i64 q.kind, .int .i64 q.num, .slice A7 q.kids.length c7] 24 (0, 0)))
  have hn := box1 w1 (.cells #[.int .i64 q.kind, .int .i64 q.num, .slice A7 q.kids.length c7] 24 (0, 0)) (.cells #[.int .i64 o.kind, .int .i64 o.num, .slice A6 o.kids.length c6, .int .i64 q.kind, .int .i64 q.num, .slice A7 q.kids.length c7] 24 (0, 0))
  rw [hz1] at hn
  have hql := ((hq.mono (S' := fun b => lo ≤ b ∧ b ≠ wc.heap.size) fun b hb hz => ⟨hb, by omega⟩).later h.bel)
  refine ⟨blk_alloc (blk_alloc hs3 _) _, ?_, Chg.trans_below h.bel hch (fun _ e => by omega) h.bel.size⟩
  exact LvS.pair hn (h.lv.same fun b hb hz => hch.block b hz hb.2) (hql.same fun b hb hz => hch.block b hz hb.2) ⟨by omega, by omega⟩ 4 0
set_option maxHeartbeats 8000000 in
theorem level_calls (A : Option Addr) (n cap : Nat) (c : Int) (ks : List Int) (w : World) (hr : ReadsInt w .i64 A n ks) (hok : NfOk (c, ks)) (hlen : n ≤ 1001) (hne : partsN (c, ks) ≠ []) :
    Calls Try.prog 43 #[.agg #[.int .i64 c, .slice A n cap]] w (LvGot w (fun _ => False) (lvlN (c, ks))) := by
  have HR := Aside0.mk hr
  have HN := Aside0.mk hr.1
  have HOK := Aside0.mk hok
  have HNE := Aside0.mk hne
  have hc0 := hok.1
  clear hr hok hne
  obtain ⟨W, hW⟩ : ∃ W, W = ((w.alloc (.cells #[.int .i64 c, .slice A n cap] 52 (0, 0))).alloc (.cells #[.int .i64 0, .int .i64 0, .slice none 0 0] 24 (0, 0))) := ⟨_, rfl⟩
  have hst : PK w W c (.slice A n cap) (.slice none 0 0) [] := by
    rw [hW]
    exact ⟨box0 w _ _, box1 w _ _, KidsAt.nil _ _, below_alloc (below_alloc (Below.refl _ _) _) _⟩
  have HST := Aside0.mk hst
  clear hst
  go_enter Try.func43, Try.ntmps43
  go_upto_region 2 with (fail)
  rw [← hW]
  clear hW
  obtain ⟨d0, d1, -, -⟩ := row2 HST.out.x1
  go_cut [17] (fun v wr => v = .bool (decide (0 < c ∨ ks = [])) ∧ wr = W)
  case first =>
    by_cases hc : 0 < c
    · have HD := Aside0.mk (show decide (0 < c ∨ ks = []) = true from decide_eq_true (.inl hc))
      go_wp2
      go_meet
      case rel => exact ⟨by rw [HD.out], by first | rfl | trivial⟩
    · by_cases hn : n = 0
      · have HD := Aside0.mk (show decide (0 < c ∨ ks = []) = true from decide_eq_true (.inr (List.eq_nil_of_length_eq_zero (by rw [HN.out]; exact hn))))
        have hb : ((n : Int) == 0) = true := by simp [hn]
        clear hn
        go_wp2
        go_meet
        case rel => exact ⟨by rw [HD.out], by first | rfl | trivial⟩
      · have HD := Aside0.mk (show decide (0 < c ∨ ks = []) = false from decide_eq_false fun h => h.elim hc fun h => hn (by rw [← HN.out, h]; rfl))
        have hb : ((n : Int) == 0) = false := by simp; omega
        go_wp2
        go_meet
        case rel => exact ⟨by rw [HD.out], by first | rfl | trivial⟩
  case rest =>
    obtain ⟨rfl, rfl⟩ := hcut
    obtain ⟨bb, hbb⟩ : ∃ bb, bb = decide (0 < c ∨ ks = []) := ⟨_, rfl⟩
    rw [← hbb]
    have HP0 := Aside0.mk (show partsK (c, ks) 0 = (if bb = true then [.mk 1 c []] else []) by
      rw [partsK, hbb]; simp)
    clear hbb
    go_upto_if 17 with (fail)
    go_cut [3] (fun v wr => Aside0 (PK w wr c (.slice A n cap) v (partsK (c, ks) 0)))
    case first =>
      cases bb with
      | true =>
        go_wp2_with (first
          | (go_at_call 31; go_must (refine (num_calls (fun _ => False) c _).mono ?_; rintro e w5 ⟨A5, c5, rfl, hl5, hb5⟩; have ST5 := Aside0.mk (HST.out.later hb5); have HL5 := Aside0.mk (fresh_away HST.out (Nat.le_refl _) hl5); clear hl5 hb5; simp only [lvV, Lv.kind, Lv.num, Lv.kids, List.length_nil]))
          | (at_builtin; go_must (obtain ⟨cells, fA, fc, hown, hkids⟩ := ST5.out.kids; refine print_append_cells (w0 := w5) (W := w5) (w.heap.size + 2) rfl (.tmp 18) (.tmp 22) 22 24 _ 3 40 rfl Try.underlying22 infoLv rfl (by decide) (by decide) (.slice none 0 0) 0 cells [.int .i64 1, .int .i64 c, .slice A5 0 c5] rfl rfl rfl (by simp [Value.oneCell']) hown (Below.refl _ _) ST5.out.base (by decide) ?_; intro v6 w6 ho6 _ hg6 hat6; have ST6 := Aside0.mk (pk_push ST5.out hown hkids HL5.out ho6 hg6 hat6); obtain ⟨A6, L6, c6, rfl, -⟩ := own_slice' ho6; clear hown hkids ho6 hg6 hat6)))
        go_meet
        case rel => exact ⟨by rw [HP0.out]; exact ST6.out⟩
      | false =>
        go_wp2
        go_meet
        case rel => exact ⟨by rw [HP0.out]; exact HST.out⟩
    case rest =>
      clear HST HP0 d0 d1
      obtain ⟨HST⟩ := hcut
      have HST := Aside0.mk HST
      obtain ⟨d0, d1, -, -⟩ := row2 HST.out.x1
      go_upto_block 0 with (fail)
      go_cut [3] (fun v wr => Aside0 (PK w wr c (.slice A n cap) v (partsN (c, ks))))
      case first =>
        go_wp2
        go_loopw [27, 3] (fun i v wr => ∃ (j : Nat), i = .int .i64 j ∧ j ≤ n ∧ Aside0 (PK w wr c (.slice A n cap) v (partsK (c, ks) j))) (fun i _ _ => n - (intOf i).toNat)
        case atStart => exact ⟨0, rfl, Nat.zero_le _, HST⟩
        case round =>
          clear HST d0 d1
          obtain ⟨j, rfl, hj, HST⟩ := hrel
          by_cases hlt : j < n
          · obtain ⟨ad, rfl, hcx⟩ := (HR.out.below HST.out.bel).at_ j (by omega) (by omega)
            rw [Int.toNat_natCast] at hcx
            obtain ⟨y, hy⟩ : ∃ y, y = rd ks j := ⟨_, rfl⟩
            rw [← hy] at hcx
            have hyr : -1 ≤ y ∧ y ≤ 1099511627776 := by
              have := atP_ok HOK.out.2.2.1 j
              rw [atP_lt (by rw [HN.out]; exact hlt), ← hy] at this
              exact this
            have HPK := Aside0.mk (show partsK (c, ks) (j + 1) = partsK (c, ks) j ++ (if 0 ≤ y then [varL y j] else []) by rw [partsK, hy])
            have hpl := parts_len (c, ks) j
            clear hy
            by_cases hy0 : 0 ≤ y
            · have HPK' := Aside0.mk (HPK.out.trans (by rw [if_pos hy0]))
              obtain ⟨xs, hxs⟩ : ∃ xs, xs = partsK (c, ks) j := ⟨_, rfl⟩
              rw [← hxs] at HST HPK' hpl
              clear hxs HPK
              obtain ⟨cl0, fA0, fc0, hown0, -⟩ := HST.out.kids
              obtain ⟨A0, L0, cp0, rfl, -⟩ := own_slice' hown0
              clear hown0
              go_wp2_with (first
                | (go_at_call 32; go_must (refine (var_calls (fun _ => False) j _).mono ?_; rintro e w4 ⟨A4, c4, rfl, hl4, hb4⟩; have ST4 := Aside0.mk (HST.out.later hb4); have HL4 := Aside0.mk hl4; clear hl4 hb4; simp only [lvV]))
                | (go_at_call 20; go_must (refine (plus_calls (fun _ => False) y A4 c4 (.mk 2 j []) w4 (leafS HL4.out) (by omega) (by simp only [Lv.num]; omega)).mono ?_; obtain ⟨x, hx⟩ : ∃ x, x = varL y j := ⟨_, rfl⟩; rw [show plP y (.mk 2 j []) = x from hx.symm]; rw [← hx] at HPK'; rintro e w5 ⟨A5, c5, rfl, hl5, hb5⟩; have ST5 := Aside0.mk (ST4.out.later hb5); have HL5 := Aside0.mk (fresh_away ST4.out (Nat.le_refl _) hl5); clear hl5 hb5 hx; simp only [lvV]))
                | (at_builtin; go_must (obtain ⟨cells, fA, fc, hown, hkids⟩ := ST5.out.kids; refine print_append_cells (w0 := w5) (W := w5) (w.heap.size + 2) rfl (.tmp 34) (.tmp 39) 22 24 _ 3 40 rfl Try.underlying22 infoLv rfl (by decide) (by decide) (.slice A0 L0 cp0) xs.length cells [.int .i64 x.kind, .int .i64 x.num, .slice A5 x.kids.length c5] rfl rfl rfl (by simp [Value.oneCell']) hown (Below.refl _ _) ST5.out.base (by omega) ?_; intro v6 w6 ho6 _ hg6 hat6; have ST6 := Aside0.mk (pk_push ST5.out hown hkids HL5.out ho6 hg6 hat6); obtain ⟨A6, L6, c6, rfl, -⟩ := own_slice' ho6; clear hown hkids ho6 hg6 hat6)))
              go_roundw
              case rel => exact ⟨j + 1, by go_num, by omega, ⟨by rw [HPK'.out]; exact ST6.out⟩⟩
              case measure => (simp [intOf]; try omega)
            · have HPK' := Aside0.mk (HPK.out.trans (by rw [if_neg hy0, List.append_nil]))
              clear HPK
              go_wp2
              go_roundw
              case rel => exact ⟨j + 1, by go_num, by omega, ⟨by rw [HPK'.out]; exact HST.out⟩⟩
              case measure => (simp [intOf]; try omega)
          · obtain rfl : j = n := by omega
            have hlt' : decide ((j : Int) < j) = false := by simp
            go_wp2
            go_meet
            case rel =>
              refine ⟨?_⟩
              unfold partsN
              rw [show ((c, ks) : Nf).2.length = j from HN.out]
              exact HST.out
      case rest =>
        clear HST d0 d1
        obtain ⟨HST⟩ := hcut
        cases hp : partsN (c, ks) with
        | nil => exact absurd hp HNE.out
        | cons x r =>
          have HE := Aside0.mk (show lvlN (c, ks) = foldM x r by unfold lvlN; rw [hp])
          rw [hp] at HST
          have HST := Aside0.mk HST
          clear hp
          obtain ⟨A9, c9, rfl, hlv⟩ := HST.out.kids.level
          have HLV := Aside0.mk (hlv 0 0)
          have hcap := HLV.out.len
          simp only [Lv.kids, List.length_cons] at hcap
          obtain ⟨A', c', hcs, hx0⟩ := HLV.out.kid 0 x rfl
          obtain ⟨gb, off, rfl, hgb⟩ := kid_ptr hcs
          obtain ⟨g0, g1, g2⟩ := lit_kid hcs
          simp only [Nat.zero_mul, Nat.add_zero] at g0 g1 g2
          have HX0 := Aside0.mk hx0
          have hgl : gb < wc.heap.size := World.block_lt_of_cell? wc _ g0
          have hbase := HST.out.base
          obtain ⟨N, hN⟩ : ∃ N, N = r.length := ⟨_, rfl⟩
          have hlen2 : (x :: r).length = N + 1 := by rw [hN]; rfl
          rw [hlen2]
          rw [← hN] at hcap
          have HNR := Aside0.mk hN
          clear hcs hx0 hlv hlen2 hN
          go_upto_block 2 with (fail)
          obtain ⟨P9, hP9⟩ : ∃ P9 : Option Addr, P9 = (if c9 = 1 then some ⟨gb, off, none⟩ else some ⟨gb, off + 3, none⟩) := ⟨_, rfl⟩
          rw [← hP9]
          have HP9 := Aside0.mk hP9
          have hout : OutB (w.heap.size + 2) wc (wc.alloc (.cells #[.int .i64 x.kind, .int .i64 x.num, .slice A' x.kids.length c'] 24 (0, 0))) (foldM x (r.take 0)) A' c' := by
            have hb : Below wc.heap.size wc (wc.alloc (.cells #[.int .i64 x.kind, .int .i64 x.num, .slice A' x.kids.length c'] 24 (0, 0))) := below_alloc (Below.refl _ _) _
            exact ⟨blk_new _ _, ((HX0.out.mono (S' := fun b => w.heap.size + 2 ≤ b ∧ b ≠ wc.heap.size) fun b hb hz => ⟨hb, by omega⟩).later hb), hb⟩
          have HOUT := Aside0.mk hout
          clear hP9 hout g0 g1 g2
          go_wp2
          go_loopw [48] (fun i wr => ∃ (j : Nat) (A6 : Option Addr) (c6 : Nat), i = .int .i64 j ∧ j ≤ N ∧ Aside0 (OutB (w.heap.size + 2) wc wr (foldM x (r.take j)) A6 c6)) (fun i _ => N - (intOf i).toNat)
          case atStart => exact ⟨0, A', c', rfl, Nat.zero_le _, HOUT⟩
          case round =>
            clear HOUT
            obtain ⟨j, A6, c6, rfl, hj, HOUT⟩ := hrel
            obtain ⟨d0, d1, d2, e0, e1, e2⟩ := row3 HOUT.out.box
            obtain ⟨o, ho⟩ : ∃ o, o = foldM x (r.take j) := ⟨_, rfl⟩
            rw [← ho] at HOUT d0 d1 d2
            have HO := Aside0.mk ho
            clear ho
            by_cases hlt : j < N
            · obtain rfl : P9 = some ⟨gb, off + 3, none⟩ := by rw [HP9.out, if_neg (by omega)]
              have hlr : j < r.length := by rw [← HNR.out]; exact hlt
              obtain ⟨q, hq⟩ : ∃ q, r[j]? = some q := ⟨_, List.getElem?_eq_getElem hlr⟩
              obtain ⟨A7, c7, hcs, hqin⟩ := HLV.out.kid (j + 1) q (by simpa [Lv.kids] using hq)
              obtain ⟨g0, g1, g2⟩ := lit_kid (hcs.same (w' := wr) fun k _ hk => HOUT.out.bel.block k hk)
              rw [show off + (j + 1) * 3 = off + 3 + j * 3 by omega] at g0 g1 g2
              have HQ := Aside0.mk hqin
              have HFS := Aside0.mk (show foldM x (r.take (j + 1)) = .mk 4 0 [o, q] by rw [List.take_add_one, hq]; show foldM x (r.take j ++ [q]) = _; rw [foldM_snoc, HO.out])
              have hpz := blk_lt HOUT.out.box
              clear hcs hqin hq
              go_wp2
              exact ⟨⟨j + 1, _, _, by go_num, by omega, ⟨by rw [HFS.out]; exact outb_next HOUT.out hbase HQ.out⟩⟩, by simp [intOf]; omega⟩
            · obtain rfl : j = N := by omega
              have hlt' : decide ((j : Int) < j) = false := by simp
              have HX2 := Aside0.mk (blk_below HST.out.x2 HOUT.out.bel)
              obtain ⟨z0, z1, z2, y0, y1, y2⟩ := row3 HX2.out
              have HF := Aside0.mk (show lvlN (c, ks) = o by rw [HE.out, HO.out, List.take_of_length_le (by rw [← HNR.out]; exact Nat.le_refl _)])
              go_wp2
              refine bodyPost_ret (results_c rfl _ _ (w.heap.size + 1) 24 #[.int .i64 o.kind, .int .i64 o.num, .slice A6 o.kids.length c6] (0, 0) _ rfl (set3 HX2.out) Try.underlying24 rfl (by kernel_rfl)) rfl ?_
              have hch := chg_set3 wr (w.heap.size + 1) (.int .i64 o.kind) (.int .i64 o.num) (.slice A6 o.kids.length c6)
              have hbw := below_then HST.out.bel HST.out.bel.size HOUT.out.bel
              rw [HF.out]
              exact ⟨A6, c6, rfl, (HOUT.out.lv.same fun b hb hz => hch.block b hz (by omega)).mono fun b hb _ => .inr (by omega), Chg.trans_below hbw hch (fun _ e => by omega) hbw.size⟩
end Go.Proofs.Ytjlhbaohippidaa

/-! OpsV -/
namespace Go.RegionEYtjlhbaohippidaa
open Go.RowKit Go.RegionInvYtjlhbaohippidaa Go.Proofs.YtjlhbaohippidaaW.PrintWords
section
variable {P : Program} {ops : Array Oper} {Q : Exit → Act → World → Prop} {R : Nat → Prop} {a : Act} {w : World} {o : Oper}
theorem obE_callV {f : FuncId} {fn : Func} {xs : Array Operand} {ts : Array TypeId} {v : Value} (args : Array Value) (hf : P.funcs[f]? = some fn) (hname : (fn.name == "runtime.NumGoroutine") = false) (hb : fn.body.isSome = true)
    (ho : o.op = .call { callee := .value (.func f), args := xs, argTypes := ts }) (hargs : xs.toList.map a.eval = args.toList) (hw : Region.wanted o (yielded ops a.tmps) = true)
    (hc : Calls P f args w fun e w' => e = .returned v ∧ Below w.heap.size w w') : OwesE P ops Q R (fun u _ _ => u = v) o a w := by
  refine obE_call args hf hname hb ho hargs hw (hc.mono ?_)
  rintro e w' ⟨rfl, hB⟩
  exact ⟨_, fun _ => False, rfl, rfl, Chg.of_below hB, fun k h => h.elim⟩
end
end Go.RegionEYtjlhbaohippidaa

/-! Sim -/
namespace Go.Proofs.Ytjlhbaohippidaa
open Go.RowKit Go.Proofs.YtjlhbaohippidaaW.PrintWords Go.RegionInvYtjlhbaohippidaa Go.RegionEYtjlhbaohippidaa

mutual
def simB : Lv → Lv → Bool
  | .mk k n ks, l => decide (k = l.kind) && (decide (k = 4) || decide (n = l.num)) && decide (ks.length = l.kids.length) && simKs ks l.kids
def simKs : List Lv → List Lv → Bool
  | [], _ => true
  | x :: r, ys => match ys with
    | [] => true
    | y :: s => simB x y && simKs r s
end
theorem sim_mk (k n : Int) (ks : List Lv) (l : Lv) : simB (.mk k n ks) l = (decide (k = l.kind) && (decide (k = 4) || decide (n = l.num)) && decide (ks.length = l.kids.length) && simKs ks l.kids) := by rw [simB]
theorem simKs_nil (ys : List Lv) : simKs [] ys = true := by rw [simKs]
theorem simKs_cons (x y : Lv) (r s : List Lv) : simKs (x :: r) (y :: s) = (simB x y && simKs r s) := by rw [simKs]
theorem sim_bad {k n : Int} {ks : List Lv} {l : Lv} (h : ¬ (k = l.kind ∧ (k = 4 ∨ n = l.num) ∧ ks.length = l.kids.length)) : simB (.mk k n ks) l = false := by
  rw [sim_mk]
  cases hb : simKs ks l.kids <;> simp_all
theorem sim_ok {k n : Int} {ks : List Lv} {l : Lv} (h : k = l.kind ∧ (k = 4 ∨ n = l.num) ∧ ks.length = l.kids.length) : simB (.mk k n ks) l = simKs ks l.kids := by
  rw [sim_mk]
  simp only [h.1, h.2.2, decide_true, Bool.true_and, Bool.and_true]
  rcases h.2.1 with h' | h'
  · rw [← h.1, h']; simp
  · rw [h']; simp
theorem simKs_not : ∀ {ks ys : List Lv} {i : Nat} {x y : Lv}, ks[i]? = some x → ys[i]? = some y → simB x y = false → simKs ks ys = false
  | [], _, i, x, y, h, _, _ => by simp at h
  | a :: r, [], i, x, y, _, h, _ => by simp at h
  | a :: r, b :: s, 0, x, y, h1, h2, h => by
    obtain rfl : a = x := by simpa using h1
    obtain rfl : b = y := by simpa using h2
    rw [simKs_cons, h]; rfl
  | a :: r, b :: s, i + 1, x, y, h1, h2, h => by
    rw [simKs_cons, simKs_not (by simpa using h1) (by simpa using h2) h]; simp
theorem simKs_all : ∀ {ks ys : List Lv}, ks.length = ys.length → (∀ (i : Nat) (x y : Lv), ks[i]? = some x → ys[i]? = some y → simB x y = true) → simKs ks ys = true
  | [], _, _, _ => simKs_nil _
  | a :: r, [], h, _ => by simp at h
  | a :: r, b :: s, h, hall => by
    rw [simKs_cons, hall 0 a b rfl rfl, simKs_all (by simpa using h) fun i x y h1 h2 => hall (i + 1) x y (by simpa using h1) (by simpa using h2)]; rfl
/-- What a call gives: the counter is told where it goes on. -/
def SamePost (w : World) (g : Nat) (r : Bool) (s1 : Int) (e : Ending) (w' : World) : Prop := e = .returned (.bool r) ∧ (∃ s', NumAt w' g s' ∧ (r = true → s' = s1)) ∧ Chg (fun k => k = g) w w'
theorem szs_take {ks : List Lv} {j : Nat} {x : Lv} (h : ks[j]? = some x) : szs (ks.take (j + 1)) = szs (ks.take j) + sz x := by
  rw [List.take_add_one, h]
  have : ∀ (l : List Lv), szs (l ++ [x]) = szs l + sz x := by
    intro l
    induction l with
    | nil => rw [List.nil_append, szs_cons, szs_nil]; omega
    | cons y r ih => rw [List.cons_append, szs_cons, ih, szs_cons]; omega
  exact this _
theorem szs_part {ks : List Lv} {j : Nat} {x : Lv} (h : ks[j]? = some x) : szs (ks.take j) + sz x ≤ szs ks := by
  have h2 : ∀ (l : List Lv) (j : Nat), szs (l.take j) ≤ szs l := by
    intro l
    induction l with
    | nil => intro j; simp
    | cons y r ih =>
      intro j
      cases j with
      | zero => simp [szs_nil]
      | succ j => rw [List.take_succ_cons, szs_cons, szs_cons]; have := ih j; omega
  rw [← szs_take h]
  exact h2 _ _
end Go.Proofs.Ytjlhbaohippidaa

/-! SmR -/
namespace Go.Proofs.Ytjlhbaohippidaa
open Go.RowKit Go.Proofs.YtjlhbaohippidaaW.PrintWords Go.RegionInvYtjlhbaohippidaa Go.RegionEYtjlhbaohippidaa
set_option linter.unusedVariables false

def sm_ops : List Oper := [
  { dst := some 49, op := Go.Op.fieldAddr 24 (Go.Operand.tmp 3) 2, type := 0, pos := "ref.go:253", after := #[], guard := none },
  { dst := some 50, op := Go.Op.load 22 (Go.Operand.tmp 49), type := 22, pos := "ref.go:253", after := #[{ on := 0, ground := Go.Ground.data }], guard := none },
  { dst := some 51, op := Go.Op.move (Go.Operand.tmp 7), type := 3, pos := "ref.go:253", after := #[], guard := none },
  { dst := some 52, op := Go.Op.indexAddr 22 (Go.Operand.tmp 50) (Go.Operand.tmp 51), type := 0, pos := "ref.go:253", after := #[{ on := 1, ground := Go.Ground.data }, { on := 2, ground := Go.Ground.data }], guard := none },
  { dst := some 53, op := Go.Op.load 24 (Go.Operand.tmp 52), type := 24, pos := "ref.go:253", after := #[{ on := 3, ground := Go.Ground.data }], guard := none },
  { dst := some 54, op := Go.Op.fieldAddr 24 (Go.Operand.tmp 4) 2, type := 0, pos := "ref.go:253", after := #[], guard := none },
  { dst := some 55, op := Go.Op.load 22 (Go.Operand.tmp 54), type := 22, pos := "ref.go:253", after := #[{ on := 5, ground := Go.Ground.data }], guard := none },
  { dst := some 56, op := Go.Op.move (Go.Operand.tmp 7), type := 3, pos := "ref.go:253", after := #[], guard := none },
  { dst := some 57, op := Go.Op.indexAddr 22 (Go.Operand.tmp 55) (Go.Operand.tmp 56), type := 0, pos := "ref.go:253", after := #[{ on := 6, ground := Go.Ground.data }, { on := 7, ground := Go.Ground.data }], guard := none },
  { dst := some 58, op := Go.Op.load 24 (Go.Operand.tmp 57), type := 24, pos := "ref.go:253", after := #[{ on := 8, ground := Go.Ground.data }], guard := none },
  { dst := some 59, op := Go.Op.move (Go.Operand.tmp 2), type := 49, pos := "ref.go:253", after := #[], guard := none },
  { dst := some 60, op := Go.Op.call { callee := Go.Callee.value (Go.Operand.func 41), args := #[Go.Operand.tmp 53, Go.Operand.tmp 58, Go.Operand.tmp 59], argTypes := #[24, 24, 49] }, type := 4, pos := "ref.go:253", after := #[{ on := 4, ground := Go.Ground.data }, { on := 9, ground := Go.Ground.data }, { on := 10, ground := Go.Ground.data }], guard := none },
  { dst := some 61, op := Go.Op.unOp Go.UnOp.not 4 (Go.Operand.tmp 60), type := 4, pos := "ref.go:253", after := #[{ on := 11, ground := Go.Ground.data }], guard := none }]
def sm_F (w0 : World) (g b : Nat) (i : Nat) (k1 n1 k2 n2 : Int) (ga oa gd od m ca cd : Nat) (xk xn yk yn : Int) (A1 A2 : Option Addr) (m1 c1 m2 c2 : Nat) (r : Bool) (cnt1 : Int) : Nat → (Nat → Value) → Value → World → (Nat → Prop) → Prop := fun rix => match rix with
  | 0 => fun _ v _ _ => v = .pointer (some ⟨b, 2, none⟩)
  | 1 => fun _ v _ _ => v = .slice (some ⟨ga, oa, none⟩) m ca
  | 2 => fun _ v _ _ => v = .int .i64 i
  | 3 => fun _ v _ _ => v = .pointer (some ⟨ga, oa + i * 3, none⟩)
  | 4 => fun _ v _ _ => v = .agg #[.int .i64 xk, .int .i64 xn, .slice A1 m1 c1]
  | 5 => fun _ v _ _ => v = .pointer (some ⟨b + 1, 2, none⟩)
  | 6 => fun _ v _ _ => v = .slice (some ⟨gd, od, none⟩) m cd
  | 7 => fun _ v _ _ => v = .int .i64 i
  | 8 => fun _ v _ _ => v = .pointer (some ⟨gd, od + i * 3, none⟩)
  | 9 => fun _ v _ _ => v = .agg #[.int .i64 yk, .int .i64 yn, .slice A2 m2 c2]
  | 10 => fun _ v _ _ => v = .pointer (some ⟨g, 0, none⟩)
  | 11 => fun τ v w O => (v = .bool r ∧ O g ∧ ∃ s', NumAt w g s' ∧ (r = true → s' = cnt1))
  | 12 => fun _ v _ _ => v = .bool (!r)
  | _ => fun _ _ _ _ => True
def sm_C : Nat → List Nat := fun rix => match rix with
  | _ => []
theorem sm_nw2 : nwB sm_ops.toArray 2 = true := by kernel_rfl
theorem sm_nw3 : nwB sm_ops.toArray 3 = true := by kernel_rfl
theorem sm_nw4 : nwB sm_ops.toArray 4 = true := by kernel_rfl
theorem sm_nw7 : nwB sm_ops.toArray 7 = true := by kernel_rfl
set_option maxRecDepth 100000 in
set_option maxHeartbeats 8000000 in
theorem sm_obs (w0 : World) (g b : Nat) (i : Nat) (k1 n1 k2 n2 : Int) (ga oa gd od m ca cd : Nat) (xk xn yk yn : Int) (A1 A2 : Option Addr) (m1 c1 m2 c2 : Nat) (r : Bool) (cnt1 : Int) (hx3 : w0.heap[b]? = some (.cells #[.int .i64 k1, .int .i64 n1, .slice (some ⟨ga, oa, none⟩) m ca] 24 (0, 0))) (hx4 : w0.heap[b + 1]? = some (.cells #[.int .i64 k2, .int .i64 n2, .slice (some ⟨gd, od, none⟩) m cd] 24 (0, 0))) (hgb : g < b) (hga : ga < w0.heap.size) (hgag : ga ≠ g) (hgd : gd < w0.heap.size) (hgdg : gd ≠ g) (him : i < m) (hc0 : w0.cell? ⟨ga, oa + i * 3, none⟩ = some (.int .i64 xk)) (hc1 : w0.cell? ⟨ga, oa + i * 3 + 1, none⟩ = some (.int .i64 xn)) (hc2 : w0.cell? ⟨ga, oa + i * 3 + 2, none⟩ = some (.slice A1 m1 c1)) (hd0 : w0.cell? ⟨gd, od + i * 3, none⟩ = some (.int .i64 yk)) (hd1 : w0.cell? ⟨gd, od + i * 3 + 1, none⟩ = some (.int .i64 yn)) (hd2 : w0.cell? ⟨gd, od + i * 3 + 2, none⟩ = some (.slice A2 m2 c2)) {cnt0 : Int} (hg : NumAt w0 g cnt0) (hrec : ∀ w, (∀ k, k < w0.heap.size → k ≠ g → w.heap[k]? = w0.heap[k]?) → NumAt w g cnt0 → w0.heap.size ≤ w.heap.size → Calls Try.prog 41 #[.agg #[.int .i64 xk, .int .i64 xn, .slice A1 m1 c1], .agg #[.int .i64 yk, .int .i64 yn, .slice A2 m2 c2], .pointer (some ⟨g, 0, none⟩)] w (SamePost w g r cnt1)) (Q : Exit → Act → World → Prop) (a0 : Act) (hi2 : a0.tmps.getD 2 undef = .pointer (some ⟨g, 0, none⟩)) (hi3 : a0.tmps.getD 3 undef = .pointer (some ⟨b, 0, none⟩)) (hi4 : a0.tmps.getD 4 undef = .pointer (some ⟨b + 1, 0, none⟩)) (hi7 : a0.tmps.getD 7 undef = .int .i64 i) :
    ObsE Try.prog sm_ops.toArray Q (est2 11 0 (fun k => k = g) (fun _ => False)) sm_C (sm_F w0 g b i k1 n1 k2 n2 ga oa gd od m ca cd xk xn yk yn A1 A2 m1 c1 m2 c2 r cnt1) a0 w0 sm_ops.toArray.toList 0 := by
  have nw2 := sm_nw2
  have nw3 := sm_nw3
  have nw4 := sm_nw4
  have nw7 := sm_nw7
  refine ⟨?_, ?_, ?_, ?_, ?_, ?_, ?_, ?_, ?_, ?_, ?_, ?_, ?_, trivial⟩
  · refine ⟨⟨fun τ => stableE_det _, leans_not⟩, ?_⟩
    intro a w O hk
    have e3 : a.eval (.tmp 3) = .pointer (some ⟨b, 0, none⟩) := (hk.init 3 (initialB_of_nw nw3)).trans hi3
    exact obE_run (wanted_none rfl) (by unfold execOp; simp only []; rw [e3]; go_simp) rfl
  · refine ⟨⟨fun τ => stableE_det _, leans_not⟩, ?_⟩
    intro a w O hk
    have e49 : a.eval (.tmp 49) = .pointer (some ⟨b, 2, none⟩) := hk.fact 0 _ 49 rfl rfl rfl rfl
    have x3 := hk.world.still hx3 (fun ⟨_, h⟩ => h.elim (fun h => by have : b = g := h.2; omega) And.right)
    have x4 := hk.world.still hx4 (fun ⟨_, h⟩ => h.elim (fun h => by have : b + 1 = g := h.2; omega) And.right)
    obtain ⟨p0, p1, p2, -, -, -⟩ := row3 x3
    obtain ⟨q0, q1, q2, -, -, -⟩ := row3 x4
    have hfx : ∀ k, k < w0.heap.size → k ≠ g → w.heap[k]? = w0.heap[k]? := fun k hkb hkg => hk.fix k (est2_fix hkb (fun h => hkg h) (fun h => h))
    have hcc : ∀ j, w.cell? ⟨ga, j, none⟩ = w0.cell? ⟨ga, j, none⟩ := fun j => cell_same (hfx _ hga hgag)
    have hcd : ∀ j, w.cell? ⟨gd, j, none⟩ = w0.cell? ⟨gd, j, none⟩ := fun j => cell_same (hfx _ hgd hgdg)
    have r0 := (hcc _).trans hc0
    have r1 := (hcc _).trans hc1
    have r2 := (hcc _).trans hc2
    have t0 := (hcd _).trans hd0
    have t1 := (hcd _).trans hd1
    have t2 := (hcd _).trans hd2
    exact obE_run (wanted_none rfl) (by unfold execOp; simp only []; rw [e49]; go_simp) rfl
  · refine ⟨⟨fun τ => stableE_det _, leans_not⟩, ?_⟩
    intro a w O hk
    have e7 : a.eval (.tmp 7) = .int .i64 i := (hk.init 7 (initialB_of_nw nw7)).trans hi7
    exact toE (ob_move rfl e7 (wanted_none rfl) rfl)
  · refine ⟨⟨fun τ => stableE_det _, leans_not⟩, ?_⟩
    intro a w O hk
    have e50 : a.eval (.tmp 50) = .slice (some ⟨ga, oa, none⟩) m ca := hk.fact 1 _ 50 rfl rfl rfl rfl
    have e51 : a.eval (.tmp 51) = .int .i64 i := hk.fact 2 _ 51 rfl rfl rfl rfl
    have x3 := hk.world.still hx3 (fun ⟨_, h⟩ => h.elim (fun h => by have : b = g := h.2; omega) And.right)
    have x4 := hk.world.still hx4 (fun ⟨_, h⟩ => h.elim (fun h => by have : b + 1 = g := h.2; omega) And.right)
    obtain ⟨p0, p1, p2, -, -, -⟩ := row3 x3
    obtain ⟨q0, q1, q2, -, -, -⟩ := row3 x4
    have hfx : ∀ k, k < w0.heap.size → k ≠ g → w.heap[k]? = w0.heap[k]? := fun k hkb hkg => hk.fix k (est2_fix hkb (fun h => hkg h) (fun h => h))
    have hcc : ∀ j, w.cell? ⟨ga, j, none⟩ = w0.cell? ⟨ga, j, none⟩ := fun j => cell_same (hfx _ hga hgag)
    have hcd : ∀ j, w.cell? ⟨gd, j, none⟩ = w0.cell? ⟨gd, j, none⟩ := fun j => cell_same (hfx _ hgd hgdg)
    have r0 := (hcc _).trans hc0
    have r1 := (hcc _).trans hc1
    have r2 := (hcc _).trans hc2
    have t0 := (hcd _).trans hd0
    have t1 := (hcd _).trans hd1
    have t2 := (hcd _).trans hd2
    exact obE_run (wanted_none rfl) (by unfold execOp; simp only []; rw [e50, e51]; go_simp) rfl
  · refine ⟨⟨fun τ => stableE_det _, leans_not⟩, ?_⟩
    intro a w O hk
    have e52 : a.eval (.tmp 52) = .pointer (some ⟨ga, oa + i * 3, none⟩) := hk.fact 3 _ 52 rfl rfl rfl rfl
    have x3 := hk.world.still hx3 (fun ⟨_, h⟩ => h.elim (fun h => by have : b = g := h.2; omega) And.right)
    have x4 := hk.world.still hx4 (fun ⟨_, h⟩ => h.elim (fun h => by have : b + 1 = g := h.2; omega) And.right)
    obtain ⟨p0, p1, p2, -, -, -⟩ := row3 x3
    obtain ⟨q0, q1, q2, -, -, -⟩ := row3 x4
    have hfx : ∀ k, k < w0.heap.size → k ≠ g → w.heap[k]? = w0.heap[k]? := fun k hkb hkg => hk.fix k (est2_fix hkb (fun h => hkg h) (fun h => h))
    have hcc : ∀ j, w.cell? ⟨ga, j, none⟩ = w0.cell? ⟨ga, j, none⟩ := fun j => cell_same (hfx _ hga hgag)
    have hcd : ∀ j, w.cell? ⟨gd, j, none⟩ = w0.cell? ⟨gd, j, none⟩ := fun j => cell_same (hfx _ hgd hgdg)
    have r0 := (hcc _).trans hc0
    have r1 := (hcc _).trans hc1
    have r2 := (hcc _).trans hc2
    have t0 := (hcd _).trans hd0
    have t1 := (hcd _).trans hd1
    have t2 := (hcd _).trans hd2
    exact obE_run (wanted_none rfl) (by unfold execOp; simp only []; rw [e52]; go_simp) rfl
  · refine ⟨⟨fun τ => stableE_det _, leans_not⟩, ?_⟩
    intro a w O hk
    have e4 : a.eval (.tmp 4) = .pointer (some ⟨b + 1, 0, none⟩) := (hk.init 4 (initialB_of_nw nw4)).trans hi4
    exact obE_run (wanted_none rfl) (by unfold execOp; simp only []; rw [e4]; go_simp) rfl
  · refine ⟨⟨fun τ => stableE_det _, leans_not⟩, ?_⟩
    intro a w O hk
    have e54 : a.eval (.tmp 54) = .pointer (some ⟨b + 1, 2, none⟩) := hk.fact 5 _ 54 rfl rfl rfl rfl
    have x3 := hk.world.still hx3 (fun ⟨_, h⟩ => h.elim (fun h => by have : b = g := h.2; omega) And.right)
    have x4 := hk.world.still hx4 (fun ⟨_, h⟩ => h.elim (fun h => by have : b + 1 = g := h.2; omega) And.right)
    obtain ⟨p0, p1, p2, -, -, -⟩ := row3 x3
    obtain ⟨q0, q1, q2, -, -, -⟩ := row3 x4
    have hfx : ∀ k, k < w0.heap.size → k ≠ g → w.heap[k]? = w0.heap[k]? := fun k hkb hkg => hk.fix k (est2_fix hkb (fun h => hkg h) (fun h => h))
    have hcc : ∀ j, w.cell? ⟨ga, j, none⟩ = w0.cell? ⟨ga, j, none⟩ := fun j => cell_same (hfx _ hga hgag)
    have hcd : ∀ j, w.cell? ⟨gd, j, none⟩ = w0.cell? ⟨gd, j, none⟩ := fun j => cell_same (hfx _ hgd hgdg)
    have r0 := (hcc _).trans hc0
    have r1 := (hcc _).trans hc1
    have r2 := (hcc _).trans hc2
    have t0 := (hcd _).trans hd0
    have t1 := (hcd _).trans hd1
    have t2 := (hcd _).trans hd2
    exact obE_run (wanted_none rfl) (by unfold execOp; simp only []; rw [e54]; go_simp) rfl
  · refine ⟨⟨fun τ => stableE_det _, leans_not⟩, ?_⟩
    intro a w O hk
    have e7 : a.eval (.tmp 7) = .int .i64 i := (hk.init 7 (initialB_of_nw nw7)).trans hi7
    exact toE (ob_move rfl e7 (wanted_none rfl) rfl)
  · refine ⟨⟨fun τ => stableE_det _, leans_not⟩, ?_⟩
    intro a w O hk
    have e55 : a.eval (.tmp 55) = .slice (some ⟨gd, od, none⟩) m cd := hk.fact 6 _ 55 rfl rfl rfl rfl
    have e56 : a.eval (.tmp 56) = .int .i64 i := hk.fact 7 _ 56 rfl rfl rfl rfl
    have x3 := hk.world.still hx3 (fun ⟨_, h⟩ => h.elim (fun h => by have : b = g := h.2; omega) And.right)
    have x4 := hk.world.still hx4 (fun ⟨_, h⟩ => h.elim (fun h => by have : b + 1 = g := h.2; omega) And.right)
    obtain ⟨p0, p1, p2, -, -, -⟩ := row3 x3
    obtain ⟨q0, q1, q2, -, -, -⟩ := row3 x4
    have hfx : ∀ k, k < w0.heap.size → k ≠ g → w.heap[k]? = w0.heap[k]? := fun k hkb hkg => hk.fix k (est2_fix hkb (fun h => hkg h) (fun h => h))
    have hcc : ∀ j, w.cell? ⟨ga, j, none⟩ = w0.cell? ⟨ga, j, none⟩ := fun j => cell_same (hfx _ hga hgag)
    have hcd : ∀ j, w.cell? ⟨gd, j, none⟩ = w0.cell? ⟨gd, j, none⟩ := fun j => cell_same (hfx _ hgd hgdg)
    have r0 := (hcc _).trans hc0
    have r1 := (hcc _).trans hc1
    have r2 := (hcc _).trans hc2
    have t0 := (hcd _).trans hd0
    have t1 := (hcd _).trans hd1
    have t2 := (hcd _).trans hd2
    exact obE_run (wanted_none rfl) (by unfold execOp; simp only []; rw [e55, e56]; go_simp) rfl
  · refine ⟨⟨fun τ => stableE_det _, leans_not⟩, ?_⟩
    intro a w O hk
    have e57 : a.eval (.tmp 57) = .pointer (some ⟨gd, od + i * 3, none⟩) := hk.fact 8 _ 57 rfl rfl rfl rfl
    have x3 := hk.world.still hx3 (fun ⟨_, h⟩ => h.elim (fun h => by have : b = g := h.2; omega) And.right)
    have x4 := hk.world.still hx4 (fun ⟨_, h⟩ => h.elim (fun h => by have : b + 1 = g := h.2; omega) And.right)
    obtain ⟨p0, p1, p2, -, -, -⟩ := row3 x3
    obtain ⟨q0, q1, q2, -, -, -⟩ := row3 x4
    have hfx : ∀ k, k < w0.heap.size → k ≠ g → w.heap[k]? = w0.heap[k]? := fun k hkb hkg => hk.fix k (est2_fix hkb (fun h => hkg h) (fun h => h))
    have hcc : ∀ j, w.cell? ⟨ga, j, none⟩ = w0.cell? ⟨ga, j, none⟩ := fun j => cell_same (hfx _ hga hgag)
    have hcd : ∀ j, w.cell? ⟨gd, j, none⟩ = w0.cell? ⟨gd, j, none⟩ := fun j => cell_same (hfx _ hgd hgdg)
    have r0 := (hcc _).trans hc0
    have r1 := (hcc _).trans hc1
    have r2 := (hcc _).trans hc2
    have t0 := (hcd _).trans hd0
    have t1 := (hcd _).trans hd1
    have t2 := (hcd _).trans hd2
    exact obE_run (wanted_none rfl) (by unfold execOp; simp only []; rw [e57]; go_simp) rfl
  · refine ⟨⟨fun τ => stableE_det _, leans_not⟩, ?_⟩
    intro a w O hk
    have e2 : a.eval (.tmp 2) = .pointer (some ⟨g, 0, none⟩) := (hk.init 2 (initialB_of_nw nw2)).trans hi2
    exact toE (ob_move rfl e2 (wanted_none rfl) rfl)
  · refine ⟨⟨fun τ => fun v w w' O h hz hk => ⟨h.1, h.2.1, by obtain ⟨s', h1, h2⟩ := h.2.2; exact ⟨s', (hk g (blk_lt h1) (.inr h.2.1)).trans h1, h2⟩⟩, leans_not⟩, ?_⟩
    intro a w O hk
    have e53 : a.eval (.tmp 53) = .agg #[.int .i64 xk, .int .i64 xn, .slice A1 m1 c1] := hk.fact 4 _ 53 rfl rfl rfl rfl
    have e58 : a.eval (.tmp 58) = .agg #[.int .i64 yk, .int .i64 yn, .slice A2 m2 c2] := hk.fact 9 _ 58 rfl rfl rfl rfl
    have e59 : a.eval (.tmp 59) = .pointer (some ⟨g, 0, none⟩) := hk.fact 10 _ 59 rfl rfl rfl rfl
    have x3 := hk.world.still hx3 (fun ⟨_, h⟩ => h.elim (fun h => by have : b = g := h.2; omega) And.right)
    have x4 := hk.world.still hx4 (fun ⟨_, h⟩ => h.elim (fun h => by have : b + 1 = g := h.2; omega) And.right)
    obtain ⟨p0, p1, p2, -, -, -⟩ := row3 x3
    obtain ⟨q0, q1, q2, -, -, -⟩ := row3 x4
    have hfx : ∀ k, k < w0.heap.size → k ≠ g → w.heap[k]? = w0.heap[k]? := fun k hkb hkg => hk.fix k (est2_fix hkb (fun h => hkg h) (fun h => h))
    have hcc : ∀ j, w.cell? ⟨ga, j, none⟩ = w0.cell? ⟨ga, j, none⟩ := fun j => cell_same (hfx _ hga hgag)
    have hcd : ∀ j, w.cell? ⟨gd, j, none⟩ = w0.cell? ⟨gd, j, none⟩ := fun j => cell_same (hfx _ hgd hgdg)
    have r0 := (hcc _).trans hc0
    have r1 := (hcc _).trans hc1
    have r2 := (hcc _).trans hc2
    have t0 := (hcd _).trans hd0
    have t1 := (hcd _).trans hd1
    have t2 := (hcd _).trans hd2
    refine obE_call #[.agg #[.int .i64 xk, .int .i64 xn, .slice A1 m1 c1], .agg #[.int .i64 yk, .int .i64 yn, .slice A2 m2 c2], .pointer (some ⟨g, 0, none⟩)] rfl rfl rfl rfl (by simp only [List.map_cons, List.map_nil]; rw [e53, e58, e59]) (wanted_none rfl) ((hrec w hfx ((hk.est 11 _ rfl (.inl rfl) g (.inl ⟨rfl, rfl⟩)).trans hg) hk.world.size).mono ?_)
    rintro e w' ⟨rfl, hn, hc⟩
    exact ⟨_, fun k => k = g, rfl, ⟨rfl, rfl, hn⟩, hc.mono fun k h => .inr (.inl ⟨rfl, h⟩), fun k h => .inl (.inr (.inl ⟨rfl, h⟩))⟩
  · refine ⟨⟨fun τ => stableE_det _, leans_not⟩, ?_⟩
    intro a w O hk
    have f60 := hk.fact 11 _ 60 rfl rfl rfl rfl
    have g60 := hk.owns 11 rfl rfl
    have x3 := hk.world.still hx3 (fun ⟨_, h⟩ => h.elim (fun h => by have : b = g := h.2; omega) And.right)
    have x4 := hk.world.still hx4 (fun ⟨_, h⟩ => h.elim (fun h => by have : b + 1 = g := h.2; omega) And.right)
    obtain ⟨p0, p1, p2, -, -, -⟩ := row3 x3
    obtain ⟨q0, q1, q2, -, -, -⟩ := row3 x4
    have hfx : ∀ k, k < w0.heap.size → k ≠ g → w.heap[k]? = w0.heap[k]? := fun k hkb hkg => hk.fix k (est2_fix hkb (fun h => hkg h) (fun h => h))
    have hcc : ∀ j, w.cell? ⟨ga, j, none⟩ = w0.cell? ⟨ga, j, none⟩ := fun j => cell_same (hfx _ hga hgag)
    have hcd : ∀ j, w.cell? ⟨gd, j, none⟩ = w0.cell? ⟨gd, j, none⟩ := fun j => cell_same (hfx _ hgd hgdg)
    have r0 := (hcc _).trans hc0
    have r1 := (hcc _).trans hc1
    have r2 := (hcc _).trans hc2
    have t0 := (hcd _).trans hd0
    have t1 := (hcd _).trans hd1
    have t2 := (hcd _).trans hd2
    have e60 : a.eval (.tmp 60) = .bool r := f60.1
    exact obE_run (wanted_none rfl) (by unfold execOp; simp only []; rw [e60]; go_simp) rfl
set_option maxRecDepth 100000 in
set_option maxHeartbeats 8000000 in
theorem sm_region {Q : Exit → Act → World → Prop} {id : Nat} (w0 : World) (g b : Nat) (i : Nat) (k1 n1 k2 n2 : Int) (ga oa gd od m ca cd : Nat) (xk xn yk yn : Int) (A1 A2 : Option Addr) (m1 c1 m2 c2 : Nat) (r : Bool) (cnt1 : Int) {s0 s1 s5 s6 s8 s9 s10 s11 s12 s13 s14 s15 s16 s17 s18 s19 s20 s21 s22 s23 s24 s25 s26 s27 s28 s29 s30 s31 s32 s33 s34 s35 s36 s37 s38 s39 s40 s41 s42 s43 s44 s45 s46 s47 s48 s49 s50 s51 s52 s53 s54 s55 s56 s57 s58 s59 s60 s61 s62 : Value} (hx3 : w0.heap[b]? = some (.cells #[.int .i64 k1, .int .i64 n1, .slice (some ⟨ga, oa, none⟩) m ca] 24 (0, 0))) (hx4 : w0.heap[b + 1]? = some (.cells #[.int .i64 k2, .int .i64 n2, .slice (some ⟨gd, od, none⟩) m cd] 24 (0, 0))) (hgb : g < b) (hga : ga < w0.heap.size) (hgag : ga ≠ g) (hgd : gd < w0.heap.size) (hgdg : gd ≠ g) (him : i < m) (hc0 : w0.cell? ⟨ga, oa + i * 3, none⟩ = some (.int .i64 xk)) (hc1 : w0.cell? ⟨ga, oa + i * 3 + 1, none⟩ = some (.int .i64 xn)) (hc2 : w0.cell? ⟨ga, oa + i * 3 + 2, none⟩ = some (.slice A1 m1 c1)) (hd0 : w0.cell? ⟨gd, od + i * 3, none⟩ = some (.int .i64 yk)) (hd1 : w0.cell? ⟨gd, od + i * 3 + 1, none⟩ = some (.int .i64 yn)) (hd2 : w0.cell? ⟨gd, od + i * 3 + 2, none⟩ = some (.slice A2 m2 c2)) {cnt0 : Int} (hg : NumAt w0 g cnt0) (hrec : ∀ w, (∀ k, k < w0.heap.size → k ≠ g → w.heap[k]? = w0.heap[k]?) → NumAt w g cnt0 → w0.heap.size ≤ w.heap.size → Calls Try.prog 41 #[.agg #[.int .i64 xk, .int .i64 xn, .slice A1 m1 c1], .agg #[.int .i64 yk, .int .i64 yn, .slice A2 m2 c2], .pointer (some ⟨g, 0, none⟩)] w (SamePost w g r cnt1))
    (hend : ∀ (w' : World) (u60 : Value) (O11 : Nat → Prop), Chg (fun k => (fun k => k = g) k ∨ (fun _ => False) k) w0 w' → ((u60 = .bool r ∧ O11 g ∧ ∃ s', NumAt w' g s' ∧ (r = true → s' = cnt1))) → (∀ k, O11 k → k < w'.heap.size ∧ ¬ Fix w0 (est2 11 0 (fun k => k = g) (fun _ => False)) k) → Q .normal { tmps := (s0 :: s1 :: (.pointer (some ⟨g, 0, none⟩) : Value) :: (.pointer (some ⟨b, 0, none⟩) : Value) :: (.pointer (some ⟨b + 1, 0, none⟩) : Value) :: s5 :: s6 :: (.int .i64 i : Value) :: s8 :: s9 :: s10 :: s11 :: s12 :: s13 :: s14 :: s15 :: s16 :: s17 :: s18 :: s19 :: s20 :: s21 :: s22 :: s23 :: s24 :: s25 :: s26 :: s27 :: s28 :: s29 :: s30 :: s31 :: s32 :: s33 :: s34 :: s35 :: s36 :: s37 :: s38 :: s39 :: s40 :: s41 :: s42 :: s43 :: s44 :: s45 :: s46 :: s47 :: s48 :: (.pointer (some ⟨b, 2, none⟩) : Value) :: (.slice (some ⟨ga, oa, none⟩) m ca : Value) :: (.int .i64 i : Value) :: (.pointer (some ⟨ga, oa + i * 3, none⟩) : Value) :: (.agg #[.int .i64 xk, .int .i64 xn, .slice A1 m1 c1] : Value) :: (.pointer (some ⟨b + 1, 2, none⟩) : Value) :: (.slice (some ⟨gd, od, none⟩) m cd : Value) :: (.int .i64 i : Value) :: (.pointer (some ⟨gd, od + i * 3, none⟩) : Value) :: (.agg #[.int .i64 yk, .int .i64 yn, .slice A2 m2 c2] : Value) :: (.pointer (some ⟨g, 0, none⟩) : Value) :: u60 :: (.bool (!r) : Value) :: s62 :: ([] : List Value)).toArray, defers := [] } w') :
    (Code.region id sm_ops.toArray true).wp Try.prog Q { tmps := (s0 :: s1 :: (.pointer (some ⟨g, 0, none⟩) : Value) :: (.pointer (some ⟨b, 0, none⟩) : Value) :: (.pointer (some ⟨b + 1, 0, none⟩) : Value) :: s5 :: s6 :: (.int .i64 i : Value) :: s8 :: s9 :: s10 :: s11 :: s12 :: s13 :: s14 :: s15 :: s16 :: s17 :: s18 :: s19 :: s20 :: s21 :: s22 :: s23 :: s24 :: s25 :: s26 :: s27 :: s28 :: s29 :: s30 :: s31 :: s32 :: s33 :: s34 :: s35 :: s36 :: s37 :: s38 :: s39 :: s40 :: s41 :: s42 :: s43 :: s44 :: s45 :: s46 :: s47 :: s48 :: s49 :: s50 :: s51 :: s52 :: s53 :: s54 :: s55 :: s56 :: s57 :: s58 :: s59 :: s60 :: s61 :: s62 :: ([] : List Value)).toArray, defers := [] } w0 := by
  refine wp_region_est (by kernel_rfl) (est2 11 0 (fun k => k = g) (fun _ => False)) sm_C (sm_F w0 g b i k1 n1 k2 n2 ga oa gd od m ca cd xk xn yk yn A1 A2 m1 c1 m2 c2 r cnt1) (est2_dis (fun k h1 h2 => h2)) (est2_range (fun k h => by have : k = g := h; have := blk_lt hx3; omega) (fun k h => h.elim)) (by rfl) (by kernel_rfl) (sm_obs w0.drew g b i k1 n1 k2 n2 ga oa gd od m ca cd xk xn yk yn A1 A2 m1 c1 m2 c2 r cnt1 hx3 hx4 hgb hga hgag hgd hgdg him hc0 hc1 hc2 hd0 hd1 hd2 hg hrec _ _ rfl rfl rfl rfl) ?_
  intro a w' O hd hs hb hf hf2 ha hsame
  have x0 : a.tmps.getD 0 undef = s0 := hsame 0 (nwB.spec (by kernel_rfl))
  have x1 : a.tmps.getD 1 undef = s1 := hsame 1 (nwB.spec (by kernel_rfl))
  have x2 : a.tmps.getD 2 undef = .pointer (some ⟨g, 0, none⟩) := hsame 2 (nwB.spec (by kernel_rfl))
  have x3 : a.tmps.getD 3 undef = .pointer (some ⟨b, 0, none⟩) := hsame 3 (nwB.spec (by kernel_rfl))
  have x4 : a.tmps.getD 4 undef = .pointer (some ⟨b + 1, 0, none⟩) := hsame 4 (nwB.spec (by kernel_rfl))
  have x5 : a.tmps.getD 5 undef = s5 := hsame 5 (nwB.spec (by kernel_rfl))
  have x6 : a.tmps.getD 6 undef = s6 := hsame 6 (nwB.spec (by kernel_rfl))
  have x7 : a.tmps.getD 7 undef = .int .i64 i := hsame 7 (nwB.spec (by kernel_rfl))
  have x8 : a.tmps.getD 8 undef = s8 := hsame 8 (nwB.spec (by kernel_rfl))
  have x9 : a.tmps.getD 9 undef = s9 := hsame 9 (nwB.spec (by kernel_rfl))
  have x10 : a.tmps.getD 10 undef = s10 := hsame 10 (nwB.spec (by kernel_rfl))
  have x11 : a.tmps.getD 11 undef = s11 := hsame 11 (nwB.spec (by kernel_rfl))
  have x12 : a.tmps.getD 12 undef = s12 := hsame 12 (nwB.spec (by kernel_rfl))
  have x13 : a.tmps.getD 13 undef = s13 := hsame 13 (nwB.spec (by kernel_rfl))
  have x14 : a.tmps.getD 14 undef = s14 := hsame 14 (nwB.spec (by kernel_rfl))
  have x15 : a.tmps.getD 15 undef = s15 := hsame 15 (nwB.spec (by kernel_rfl))
  have x16 : a.tmps.getD 16 undef = s16 := hsame 16 (nwB.spec (by kernel_rfl))
  have x17 : a.tmps.getD 17 undef = s17 := hsame 17 (nwB.spec (by kernel_rfl))
  have x18 : a.tmps.getD 18 undef = s18 := hsame 18 (nwB.spec (by kernel_rfl))
  have x19 : a.tmps.getD 19 undef = s19 := hsame 19 (nwB.spec (by kernel_rfl))
  have x20 : a.tmps.getD 20 undef = s20 := hsame 20 (nwB.spec (by kernel_rfl))
  have x21 : a.tmps.getD 21 undef = s21 := hsame 21 (nwB.spec (by kernel_rfl))
  have x22 : a.tmps.getD 22 undef = s22 := hsame 22 (nwB.spec (by kernel_rfl))
  have x23 : a.tmps.getD 23 undef = s23 := hsame 23 (nwB.spec (by kernel_rfl))
  have x24 : a.tmps.getD 24 undef = s24 := hsame 24 (nwB.spec (by kernel_rfl))
  have x25 : a.tmps.getD 25 undef = s25 := hsame 25 (nwB.spec (by kernel_rfl))
  have x26 : a.tmps.getD 26 undef = s26 := hsame 26 (nwB.spec (by kernel_rfl))
  have x27 : a.tmps.getD 27 undef = s27 := hsame 27 (nwB.spec (by kernel_rfl))
  have x28 : a.tmps.getD 28 undef = s28 := hsame 28 (nwB.spec (by kernel_rfl))
  have x29 : a.tmps.getD 29 undef = s29 := hsame 29 (nwB.spec (by kernel_rfl))
  have x30 : a.tmps.getD 30 undef = s30 := hsame 30 (nwB.spec (by kernel_rfl))
  have x31 : a.tmps.getD 31 undef = s31 := hsame 31 (nwB.spec (by kernel_rfl))
  have x32 : a.tmps.getD 32 undef = s32 := hsame 32 (nwB.spec (by kernel_rfl))
  have x33 : a.tmps.getD 33 undef = s33 := hsame 33 (nwB.spec (by kernel_rfl))
  have x34 : a.tmps.getD 34 undef = s34 := hsame 34 (nwB.spec (by kernel_rfl))
  have x35 : a.tmps.getD 35 undef = s35 := hsame 35 (nwB.spec (by kernel_rfl))
  have x36 : a.tmps.getD 36 undef = s36 := hsame 36 (nwB.spec (by kernel_rfl))
  have x37 : a.tmps.getD 37 undef = s37 := hsame 37 (nwB.spec (by kernel_rfl))
  have x38 : a.tmps.getD 38 undef = s38 := hsame 38 (nwB.spec (by kernel_rfl))
  have x39 : a.tmps.getD 39 undef = s39 := hsame 39 (nwB.spec (by kernel_rfl))
  have x40 : a.tmps.getD 40 undef = s40 := hsame 40 (nwB.spec (by kernel_rfl))
  have x41 : a.tmps.getD 41 undef = s41 := hsame 41 (nwB.spec (by kernel_rfl))
  have x42 : a.tmps.getD 42 undef = s42 := hsame 42 (nwB.spec (by kernel_rfl))
  have x43 : a.tmps.getD 43 undef = s43 := hsame 43 (nwB.spec (by kernel_rfl))
  have x44 : a.tmps.getD 44 undef = s44 := hsame 44 (nwB.spec (by kernel_rfl))
  have x45 : a.tmps.getD 45 undef = s45 := hsame 45 (nwB.spec (by kernel_rfl))
  have x46 : a.tmps.getD 46 undef = s46 := hsame 46 (nwB.spec (by kernel_rfl))
  have x47 : a.tmps.getD 47 undef = s47 := hsame 47 (nwB.spec (by kernel_rfl))
  have x48 : a.tmps.getD 48 undef = s48 := hsame 48 (nwB.spec (by kernel_rfl))
  have x49 : a.tmps.getD 49 undef = .pointer (some ⟨b, 2, none⟩) := (hf 0 _ 49 rfl rfl (by decide)).1
  have x50 : a.tmps.getD 50 undef = .slice (some ⟨ga, oa, none⟩) m ca := (hf 1 _ 50 rfl rfl (by decide)).1
  have x51 : a.tmps.getD 51 undef = .int .i64 i := (hf 2 _ 51 rfl rfl (by decide)).1
  have x52 : a.tmps.getD 52 undef = .pointer (some ⟨ga, oa + i * 3, none⟩) := (hf 3 _ 52 rfl rfl (by decide)).1
  have x53 : a.tmps.getD 53 undef = .agg #[.int .i64 xk, .int .i64 xn, .slice A1 m1 c1] := (hf 4 _ 53 rfl rfl (by decide)).1
  have x54 : a.tmps.getD 54 undef = .pointer (some ⟨b + 1, 2, none⟩) := (hf 5 _ 54 rfl rfl (by decide)).1
  have x55 : a.tmps.getD 55 undef = .slice (some ⟨gd, od, none⟩) m cd := (hf 6 _ 55 rfl rfl (by decide)).1
  have x56 : a.tmps.getD 56 undef = .int .i64 i := (hf 7 _ 56 rfl rfl (by decide)).1
  have x57 : a.tmps.getD 57 undef = .pointer (some ⟨gd, od + i * 3, none⟩) := (hf 8 _ 57 rfl rfl (by decide)).1
  have x58 : a.tmps.getD 58 undef = .agg #[.int .i64 yk, .int .i64 yn, .slice A2 m2 c2] := (hf 9 _ 58 rfl rfl (by decide)).1
  have x59 : a.tmps.getD 59 undef = .pointer (some ⟨g, 0, none⟩) := (hf 10 _ 59 rfl rfl (by decide)).1
  have x61 : a.tmps.getD 61 undef = .bool (!r) := (hf 12 _ 61 rfl rfl (by decide)).1
  have x62 : a.tmps.getD 62 undef = s62 := hsame 62 (nwB.spec (by kernel_rfl))
  have hl : a.tmps = (s0 :: s1 :: (.pointer (some ⟨g, 0, none⟩) : Value) :: (.pointer (some ⟨b, 0, none⟩) : Value) :: (.pointer (some ⟨b + 1, 0, none⟩) : Value) :: s5 :: s6 :: (.int .i64 i : Value) :: s8 :: s9 :: s10 :: s11 :: s12 :: s13 :: s14 :: s15 :: s16 :: s17 :: s18 :: s19 :: s20 :: s21 :: s22 :: s23 :: s24 :: s25 :: s26 :: s27 :: s28 :: s29 :: s30 :: s31 :: s32 :: s33 :: s34 :: s35 :: s36 :: s37 :: s38 :: s39 :: s40 :: s41 :: s42 :: s43 :: s44 :: s45 :: s46 :: s47 :: s48 :: (.pointer (some ⟨b, 2, none⟩) : Value) :: (.slice (some ⟨ga, oa, none⟩) m ca : Value) :: (.int .i64 i : Value) :: (.pointer (some ⟨ga, oa + i * 3, none⟩) : Value) :: (.agg #[.int .i64 xk, .int .i64 xn, .slice A1 m1 c1] : Value) :: (.pointer (some ⟨b + 1, 2, none⟩) : Value) :: (.slice (some ⟨gd, od, none⟩) m cd : Value) :: (.int .i64 i : Value) :: (.pointer (some ⟨gd, od + i * 3, none⟩) : Value) :: (.agg #[.int .i64 yk, .int .i64 yn, .slice A2 m2 c2] : Value) :: (.pointer (some ⟨g, 0, none⟩) : Value) :: (a.tmps.getD 60 undef : Value) :: (.bool (!r) : Value) :: s62 :: ([] : List Value)).toArray := by
    have h := lit a.tmps 63 hs
    have e : ((List.range 63).map (fun i => a.tmps.getD i undef)).toArray = ((a.tmps.getD 0 undef : Value) :: (a.tmps.getD 1 undef : Value) :: (a.tmps.getD 2 undef : Value) :: (a.tmps.getD 3 undef : Value) :: (a.tmps.getD 4 undef : Value) :: (a.tmps.getD 5 undef : Value) :: (a.tmps.getD 6 undef : Value) :: (a.tmps.getD 7 undef : Value) :: (a.tmps.getD 8 undef : Value) :: (a.tmps.getD 9 undef : Value) :: (a.tmps.getD 10 undef : Value) :: (a.tmps.getD 11 undef : Value) :: (a.tmps.getD 12 undef : Value) :: (a.tmps.getD 13 undef : Value) :: (a.tmps.getD 14 undef : Value) :: (a.tmps.getD 15 undef : Value) :: (a.tmps.getD 16 undef : Value) :: (a.tmps.getD 17 undef : Value) :: (a.tmps.getD 18 undef : Value) :: (a.tmps.getD 19 undef : Value) :: (a.tmps.getD 20 undef : Value) :: (a.tmps.getD 21 undef : Value) :: (a.tmps.getD 22 undef : Value) :: (a.tmps.getD 23 undef : Value) :: (a.tmps.getD 24 undef : Value) :: (a.tmps.getD 25 undef : Value) :: (a.tmps.getD 26 undef : Value) :: (a.tmps.getD 27 undef : Value) :: (a.tmps.getD 28 undef : Value) :: (a.tmps.getD 29 undef : Value) :: (a.tmps.getD 30 undef : Value) :: (a.tmps.getD 31 undef : Value) :: (a.tmps.getD 32 undef : Value) :: (a.tmps.getD 33 undef : Value) :: (a.tmps.getD 34 undef : Value) :: (a.tmps.getD 35 undef : Value) :: (a.tmps.getD 36 undef : Value) :: (a.tmps.getD 37 undef : Value) :: (a.tmps.getD 38 undef : Value) :: (a.tmps.getD 39 undef : Value) :: (a.tmps.getD 40 undef : Value) :: (a.tmps.getD 41 undef : Value) :: (a.tmps.getD 42 undef : Value) :: (a.tmps.getD 43 undef : Value) :: (a.tmps.getD 44 undef : Value) :: (a.tmps.getD 45 undef : Value) :: (a.tmps.getD 46 undef : Value) :: (a.tmps.getD 47 undef : Value) :: (a.tmps.getD 48 undef : Value) :: (a.tmps.getD 49 undef : Value) :: (a.tmps.getD 50 undef : Value) :: (a.tmps.getD 51 undef : Value) :: (a.tmps.getD 52 undef : Value) :: (a.tmps.getD 53 undef : Value) :: (a.tmps.getD 54 undef : Value) :: (a.tmps.getD 55 undef : Value) :: (a.tmps.getD 56 undef : Value) :: (a.tmps.getD 57 undef : Value) :: (a.tmps.getD 58 undef : Value) :: (a.tmps.getD 59 undef : Value) :: (a.tmps.getD 60 undef : Value) :: (a.tmps.getD 61 undef : Value) :: (a.tmps.getD 62 undef : Value) :: ([] : List Value)).toArray := rfl
    rw [e, x0, x1, x2, x3, x4, x5, x6, x7, x8, x9, x10, x11, x12, x13, x14, x15, x16, x17, x18, x19, x20, x21, x22, x23, x24, x25, x26, x27, x28, x29, x30, x31, x32, x33, x34, x35, x36, x37, x38, x39, x40, x41, x42, x43, x44, x45, x46, x47, x48, x49, x50, x51, x52, x53, x54, x55, x56, x57, x58, x59, x61, x62] at h
    exact h
  obtain ⟨tmps, defers⟩ := a
  obtain rfl : defers = [] := hd
  have hl' : tmps = _ := hl
  rw [hl']
  have hb' := est2_chg hb
  exact hend w' _ (O 11) ⟨hb'.os, hb'.tape, hb'.output, hb'.size, hb'.block⟩ (hf 11 _ 60 rfl rfl (by decide)).1 (hf 11 _ 60 rfl rfl (by decide)).2

end Go.Proofs.Ytjlhbaohippidaa

/-! Same -/
namespace Go.Proofs.Ytjlhbaohippidaa
open Go.RowKit Go.Proofs.YtjlhbaohippidaaW.PrintWords Go.RegionInvYtjlhbaohippidaa Go.RegionEYtjlhbaohippidaa

/-- The boxes of the two levels, the counter. -/
structure SmB (w wr : World) (g : Nat) (s : Int) (k1 n1 : Int) (V1 : Value) (k2 n2 : Int) (V2 : Value) : Prop where
  x3 : wr.heap[w.heap.size]? = some (.cells #[.int .i64 k1, .int .i64 n1, V1] 24 (0, 0))
  x4 : wr.heap[w.heap.size + 1]? = some (.cells #[.int .i64 k2, .int .i64 n2, V2] 24 (0, 0))
  num : NumAt wr g s
  chg : Chg (fun k => k = g) w wr
set_option maxRecDepth 4000 in
set_option maxHeartbeats 8000000 in
theorem ref_same (N : Nat) : ∀ (l : Lv), SizeOf.sizeOf l < N → ∀ (l' : Lv) (A A' : Option Addr) (c c' : Nat) (s : Nat) (g : Nat) (w : World), LvS w (fun k => k ≠ g) A c l → LvS w (fun k => k ≠ g) A' c' l' → NumAt w g s → s + sz l ≤ 5000 →
    Calls Try.prog 41 #[lvV A c l, lvV A' c' l', .pointer (some ⟨g, 0, none⟩)] w (SamePost w g (simB l l') ((s + sz l : Nat) : Int)) := by
  induction N with
  | zero => intro l h; omega
  | succ N ih =>
    rintro ⟨lk, ln, ks⟩ hN ⟨lk', ln', ks'⟩ A A' c c' s g w hin hin' hg hs
    have IH := Aside0.mk ih
    have HIN := Aside0.mk hin
    have HIN' := Aside0.mk hin'
    have HG := Aside0.mk hg
    have hcell := hg.cell
    have hfz := blk_frozen hg 0
    have hlen := hin.len
    have hlen' := hin'.len
    have hglt := blk_lt hg
    have hgne : g ≠ w.heap.size := Nat.ne_of_lt hglt
    have hgne1 : g ≠ w.heap.size + 1 := by omega
    rw [sz_mk] at hs ⊢
    clear ih hin hin' hg
    unfold lvV
    simp only [Lv.kind, Lv.num, Lv.kids] at hlen hlen' ⊢
    obtain ⟨m, hm⟩ : ∃ m, m = ks.length := ⟨_, rfl⟩
    obtain ⟨m', hm'⟩ : ∃ m', m' = ks'.length := ⟨_, rfl⟩
    rw [← hm] at hlen ⊢
    rw [← hm'] at hlen' ⊢
    have HM := Aside0.mk hm
    have HM' := Aside0.mk hm'
    obtain ⟨W, hW⟩ : ∃ W, W = (((w.setCell ⟨g, 0, none⟩ (.int .i64 ((s : Int) + 1))).alloc (.cells #[.int .i64 lk, .int .i64 ln, .slice A m c] 24 (0, 0))).alloc (.cells #[.int .i64 lk', .int .i64 ln', .slice A' m' c'] 24 (0, 0))) := ⟨_, rfl⟩
    have hst : SmB w W g ((s : Int) + 1) lk ln (.slice A m c) lk' ln' (.slice A' m' c') := by
      have hz : (w.setCell ⟨g, 0, none⟩ (.int .i64 ((s : Int) + 1))).heap.size = w.heap.size := by simp [World.setCell]
      rw [hW]
      refine ⟨?_, ?_, ((HG.out.set _).alloc _).alloc _, chg_trans (chg_trans (chg_set _ _ _ _) (chg_alloc _ _ _)) (chg_alloc _ _ _)⟩
      · have := box0 (w.setCell ⟨g, 0, none⟩ (.int .i64 ((s : Int) + 1))) (.cells #[.int .i64 lk, .int .i64 ln, .slice A m c] 24 (0, 0)) (.cells #[.int .i64 lk', .int .i64 ln', .slice A' m' c'] 24 (0, 0))
        rwa [hz] at this
      · have := box1 (w.setCell ⟨g, 0, none⟩ (.int .i64 ((s : Int) + 1))) (.cells #[.int .i64 lk, .int .i64 ln, .slice A m c] 24 (0, 0)) (.cells #[.int .i64 lk', .int .i64 ln', .slice A' m' c'] 24 (0, 0))
        rwa [hz] at this
    have HST := Aside0.mk hst
    clear hst hm hm'
    have hwr : IntKind.i64.wrap ((s : Int) + 1) = (s : Int) + 1 := by rw [Go.IntWalk.i64_left, Go.IntWalk.wrap64_in _ (by omega)]
    have hlt5 : ¬ (5000 : Int) < (s : Int) + 1 := by omega
    go_enter Try.func41, Try.ntmps41
    go_upto_region 2 with (fail)
    rw [← hW]
    clear hW hcell hfz
    have hcell := HST.out.num.cell
    obtain ⟨p0, p1, p2, -, -, -⟩ := row3 HST.out.x3
    obtain ⟨q0, q1, q2, -, -, -⟩ := row3 HST.out.x4
    by_cases hk : lk = lk'
    · have hkb : (lk != lk') = false := by simp [hk]
      by_cases hn : lk = 4 ∨ ln = ln'
      · by_cases hmm : m = m'
        · have hmb : ((m : Int) != (m' : Int)) = false := by simp [hmm]
          have HE := Aside0.mk (sim_ok (k := lk) (n := ln) (ks := ks) (l := .mk lk' ln' ks') ⟨hk, hn, by simp only [Lv.kids]; rw [← HM.out, ← HM'.out, hmm]⟩)
          go_upto_region 4 with (fail)
          go_cut [42] (fun v wr => v = .bool false ∧ wr = W)
          case first =>
            by_cases hk4 : lk = 4
            · have h4 : (lk != 4) = false := by simp [hk4]
              clear hk hn hk4 hmm
              go_wp2
              go_meet
              case rel => exact ⟨rfl, by first | rfl | trivial⟩
            · have h4 : (lk != 4) = true := by simp [hk4]
              have h5 : (ln != ln') = false := by simp; omega
              clear hk hn hk4 hmm
              go_wp2
              go_meet
              case rel => exact ⟨rfl, by first | rfl | trivial⟩
          case rest =>
            obtain ⟨rfl, rfl⟩ := hcut
            subst hmm
            have HML := Aside0.mk (show ks.length = ks'.length by rw [← HM.out, HM'.out])
            have hst0 : SmB w wc g ((s + 1 + szs (ks.take 0) : Nat) : Int) lk ln (.slice A m c) lk' ln' (.slice A' m c') := by
              rw [show ((s + 1 + szs (ks.take 0) : Nat) : Int) = (s : Int) + 1 by rw [List.take_zero, szs_nil]; omega]
              exact HST.out
            have HST0 := Aside0.mk hst0
            clear hk hn hkb hmb hcell HST hst0 q0 q1 q2
            go_wp2
            go_loopw [46] (fun i wr => ∃ (j : Nat), i = .int .i64 j ∧ j ≤ m ∧ Aside0 (∀ (i : Nat) (x y : Lv), i < j → ks[i]? = some x → ks'[i]? = some y → simB x y = true) ∧ Aside0 (SmB w wr g ((s + 1 + szs (ks.take j) : Nat) : Int) lk ln (.slice A m c) lk' ln' (.slice A' m c'))) (fun i _ => m - (intOf i).toNat)
            case atStart => exact ⟨0, rfl, Nat.zero_le _, ⟨fun i x y h => by omega⟩, HST0⟩
            case round =>
              clear HST0 p0 p1 p2
              obtain ⟨j, rfl, hj, HALL, HST⟩ := hrel
              by_cases hlt : j < m
              · obtain ⟨x, hx⟩ : ∃ x, ks[j]? = some x := ⟨_, List.getElem?_eq_getElem (by rw [← HM.out]; exact hlt)⟩
                obtain ⟨y, hy⟩ : ∃ y, ks'[j]? = some y := ⟨_, List.getElem?_eq_getElem (by rw [← HM'.out]; exact hlt)⟩
                have hinr : LvS wr (fun k => k ≠ g) A c (.mk lk ln ks) := HIN.out.same fun k hk hz => HST.out.chg.block k hz hk
                have hinr' : LvS wr (fun k => k ≠ g) A' c' (.mk lk' ln' ks') := HIN'.out.same fun k hk hz => HST.out.chg.block k hz hk
                obtain ⟨A1, c1, hcs, hxin⟩ := hinr.kid j x hx
                obtain ⟨A2, c2, hcs', hyin⟩ := hinr'.kid j y hy
                obtain ⟨ga, oa, rfl, hga⟩ := kid_ptr hcs
                obtain ⟨gd, od, rfl, hgd⟩ := kid_ptr hcs'
                have HC := Aside0.mk (lit_kid hcs)
                have HC' := Aside0.mk (lit_kid hcs')
                have HX := Aside0.mk hx
                have HY := Aside0.mk hy
                have HXIN := Aside0.mk hxin
                have HYIN := Aside0.mk hyin
                have hzs := szs_part hx
                have HZT := Aside0.mk (szs_take hx)
                have hgal := World.block_lt_of_cell? wr _ HC.out.1
                have hgdl := World.block_lt_of_cell? wr _ HC'.out.1
                clear hinr hinr' hcs hcs' hx hy hxin hyin
                go_upto_region 9 with (fail)
                refine sm_region wr g w.heap.size j lk ln lk' ln' ga oa gd od m c c' x.kind x.num y.kind y.num A1 A2 x.kids.length c1 y.kids.length c2 (simB x y) ((s + 1 + szs (ks.take j) + sz x : Nat) : Int) HST.out.x3 HST.out.x4 hglt hgal hga hgdl hgd hlt HC.out.1 HC.out.2.1 HC.out.2.2 HC'.out.1 HC'.out.2.1 HC'.out.2.2 HST.out.num (fun w5 hw5 hn5 hz5 => ?_) ?_
                · exact IH.out x (Nat.lt_of_lt_of_le (kid_small HX.out) (Nat.le_of_lt_succ hN)) y A1 A2 c1 c2 (s + 1 + szs (ks.take j)) g w5 (HXIN.out.same fun k hk hz => hw5 k hz hk) (HYIN.out.same fun k hk hz => hw5 k hz hk) hn5 (by omega)
                · intro w' u60 O11 hch hf hown
                  clear hown
                  obtain ⟨-, -, s', hns, hsr⟩ := hf
                  have hcw : Chg (fun k => k = g) wr w' := hch.mono fun k h => h.elim id False.elim
                  have hst1 : SmB w w' g s' lk ln (.slice (some ⟨ga, oa, none⟩) m c) lk' ln' (.slice (some ⟨gd, od, none⟩) m c') := ⟨hcw.still HST.out.x3 (by omega), hcw.still HST.out.x4 (by omega), hns, chg_trans HST.out.chg hcw⟩
                  have HST1 := Aside0.mk hst1
                  cases hsim : simB x y with
                  | true =>
                    have HS' := Aside0.mk (hsr hsim)
                    have HALL' := Aside0.mk (show ∀ (i : Nat) (x y : Lv), i < j + 1 → ks[i]? = some x → ks'[i]? = some y → simB x y = true from fun i x2 y2 hi h1 h2 => by
                      by_cases e : i = j
                      · subst e
                        obtain rfl : x = x2 := Option.some.inj (HX.out.symm.trans h1)
                        obtain rfl : y = y2 := Option.some.inj (HY.out.symm.trans h2)
                        exact hsim
                      · exact HALL.out i x2 y2 (by omega) h1 h2)
                    clear hch hns hsr hcw hst1 hsim hzs hgal hgdl hga hgd hwr hgne hgne1 hs hlt5
                    go_wp2
                    go_roundw
                    case rel => exact ⟨j + 1, by go_num, by omega, HALL', ⟨by have h := HST1.out; rw [HS'.out] at h; rw [HZT.out, ← Nat.add_assoc]; exact h⟩⟩
                    case measure => (simp [intOf]; try omega)
                  | false =>
                    have HF := Aside0.mk (show simB (.mk lk ln ks) (.mk lk' ln' ks') = false by rw [HE.out]; exact simKs_not HX.out HY.out hsim)
                    clear hch hns hsr hcw hst1 hsim hzs hgal hgdl hga hgd hwr hgne hgne1 hs hlt5
                    go_wp2
                    go_ret
                    exact ⟨by rw [HF.out]; rfl, ⟨_, HST1.out.num, fun h => by rw [HF.out] at h; cases h⟩, HST1.out.chg⟩
              · obtain rfl : j = m := by omega
                have hlt' : decide ((j : Int) < j) = false := by simp
                have HF := Aside0.mk (show simB (.mk lk ln ks) (.mk lk' ln' ks') = true by
                  rw [HE.out]
                  exact simKs_all HML.out fun i x y h1 h2 => HALL.out i x y (by rw [HM.out]; exact (List.getElem?_eq_some_iff.1 h1).1) h1 h2)
                have HSZ := Aside0.mk (show s + 1 + szs (ks.take j) = s + (szs ks + 1) by rw [List.take_of_length_le (by rw [← HM.out]; exact Nat.le_refl _)]; omega)
                go_wp2
                go_ret
                exact ⟨by rw [HF.out]; rfl, ⟨_, HST.out.num, fun _ => by rw [HSZ.out]⟩, HST.out.chg⟩
        · have hmb : ((m : Int) != (m' : Int)) = true := by simp; omega
          have HE := Aside0.mk (sim_bad (k := lk) (n := ln) (ks := ks) (l := .mk lk' ln' ks') (fun h => hmm (by have := h.2.2; simp only [Lv.kids] at this; rw [HM.out, HM'.out]; exact this)))
          by_cases hk4 : lk = 4
          · have h4 : (lk != 4) = false := by simp [hk4]
            clear hk hn hk4 hmm
            go_wp2
            go_ret
            exact ⟨by rw [HE.out]; rfl, ⟨_, HST.out.num, fun h => by rw [HE.out] at h; cases h⟩, HST.out.chg⟩
          · have h4 : (lk != 4) = true := by simp [hk4]
            have h5 : (ln != ln') = false := by simp; omega
            clear hk hn hk4 hmm
            go_wp2
            go_ret
            exact ⟨by rw [HE.out]; rfl, ⟨_, HST.out.num, fun h => by rw [HE.out] at h; cases h⟩, HST.out.chg⟩
      · have h4 : (lk != 4) = true := by simp; omega
        have h5 : (ln != ln') = true := by simp; omega
        have HE := Aside0.mk (sim_bad (k := lk) (n := ln) (ks := ks) (l := .mk lk' ln' ks') (fun h => hn h.2.1))
        clear hk hn
        go_wp2
        go_ret
        exact ⟨by rw [HE.out]; rfl, ⟨_, HST.out.num, fun h => by rw [HE.out] at h; cases h⟩, HST.out.chg⟩
    · have hkb : (lk != lk') = true := by simp [hk]
      have HE := Aside0.mk (sim_bad (k := lk) (n := ln) (ks := ks) (l := .mk lk' ln' ks') (fun h => hk h.1))
      clear hk
      go_wp2
      go_ret
      exact ⟨by rw [HE.out]; rfl, ⟨_, HST.out.num, fun h => by rw [HE.out] at h; cases h⟩, HST.out.chg⟩
set_option maxHeartbeats 4000000 in
theorem refSame_calls (A A' : Option Addr) (c c' : Nat) (l l' : Lv) (w : World) (hin : LvIn w w.heap.size A c l) (hin' : LvIn w w.heap.size A' c' l') (hsz : sz l ≤ 5000) :
    Calls Try.prog 22 #[lvV A c l, lvV A' c' l'] w fun e w' => e = .returned (.bool (simB l l')) ∧ Below w.heap.size w w' := by
  have HIN := Aside0.mk hin
  have HIN' := Aside0.mk hin'
  clear hin hin'
  unfold lvV
  go_enter Try.func22, Try.ntmps22
  obtain ⟨w3, hw3⟩ : ∃ w3, w3 = (((w.alloc (.cells #[.int .i64 l.kind, .int .i64 l.num, .slice A l.kids.length c] 24 (0, 0))).alloc (.cells #[.int .i64 l'.kind, .int .i64 l'.num, .slice A' l'.kids.length c'] 24 (0, 0))).alloc (.cells #[.int .i64 0] 3 (0, 0))) := ⟨_, rfl⟩
  have hnew : NumAt w3 (w.heap.size + 1 + 1) ((0 : Nat) : Int) := by
    have := blk_new ((w.alloc (.cells #[.int .i64 l.kind, .int .i64 l.num, .slice A l.kids.length c] 24 (0, 0))).alloc (.cells #[.int .i64 l'.kind, .int .i64 l'.num, .slice A' l'.kids.length c'] 24 (0, 0))) (.cells #[.int .i64 0] 3 (0, 0))
    rw [hw3]
    simpa [NumAt] using this
  have hb3 : Below w.heap.size w w3 := by rw [hw3]; exact below_alloc (below_alloc (below_alloc (Below.refl _ _) _) _) _
  have HNEW := Aside0.mk hnew
  have HB3 := Aside0.mk hb3
  have HW3 := Aside0.mk hw3
  clear hnew hb3 hw3
  go_wp2_with (go_at_call 41; go_must (rw [← HW3.out]; refine (ref_same _ l (Nat.lt_succ_self _) l' A A' c c' 0 (w.heap.size + 1 + 1) w3 (LvS.mono (HIN.out.stay HB3.out) fun k hk _ => by omega) (LvS.mono (HIN'.out.stay HB3.out) fun k hk _ => by omega) HNEW.out (by omega)).mono ?_; rintro e w1 ⟨rfl, -, hc⟩; have HB := Aside0.mk (Chg.trans_below HB3.out hc (fun _ e => by omega) HB3.out.size); clear hc))
  go_ret
  exact ⟨rfl, HB.out⟩
end Go.Proofs.Ytjlhbaohippidaa

/-! Red -/
namespace Go.Proofs.Ytjlhbaohippidaa
open Go.RowKit Go.Proofs.YtjlhbaohippidaaW.PrintWords Go.RegionInvYtjlhbaohippidaa Go.RegionEYtjlhbaohippidaa

mutual
def zrP : Lv → Prop
  | .mk k n ks => (k = 4 → n = 0) ∧ zrKs ks
def zrKs : List Lv → Prop
  | [] => True
  | x :: r => zrP x ∧ zrKs r
end
theorem zr_mk {k n : Int} {ks : List Lv} : zrP (.mk k n ks) ↔ (k = 4 → n = 0) ∧ zrKs ks := by rw [zrP]
theorem zrKs_cons {x : Lv} {r : List Lv} : zrKs (x :: r) ↔ zrP x ∧ zrKs r := by rw [zrKs]
theorem zrKs_nil : zrKs [] := by rw [zrKs]; trivial
mutual
theorem sim_eq : (a b : Lv) → zrP a → zrP b → simB a b = true → a = b
  | .mk k n ks, .mk k' n' ks', ha, hb, h => by
    rw [zr_mk] at ha hb
    rw [sim_mk] at h
    rw [Bool.and_eq_true, Bool.and_eq_true, Bool.and_eq_true, Bool.or_eq_true] at h
    obtain ⟨⟨⟨h1, h2⟩, h3⟩, h4⟩ := h
    have g1 : k = k' := of_decide_eq_true h1
    have g3 : ks.length = ks'.length := of_decide_eq_true h3
    have g4 : simKs ks ks' = true := h4
    clear h1 h3 h4
    subst g1
    have hn : n = n' := by
      rcases h2 with h2 | h2
      · rw [ha.1 (of_decide_eq_true h2), hb.1 (of_decide_eq_true h2)]
      · exact of_decide_eq_true h2
    rw [hn, sims_eq ks ks' ha.2 hb.2 g3 g4]
theorem sims_eq : (ks ks' : List Lv) → zrKs ks → zrKs ks' → ks.length = ks'.length → simKs ks ks' = true → ks = ks'
  | [], ks', _, _, h, _ => (List.eq_nil_of_length_eq_zero h.symm).symm
  | x :: r, [], _, _, h, _ => by simp at h
  | x :: r, y :: s, ha, hb, h, hs => by
    rw [zrKs_cons] at ha hb
    rw [simKs_cons, Bool.and_eq_true] at hs
    rw [sim_eq x y ha.1 hb.1 hs.1, sims_eq r s ha.2 hb.2 (by simpa using h) hs.2]
end
mutual
theorem sim_refl : (a : Lv) → simB a a = true
  | .mk k n ks => (sim_ok (l := .mk k n ks) ⟨rfl, .inr rfl, rfl⟩).trans (sims_refl ks)
theorem sims_refl : (ks : List Lv) → simKs ks ks = true
  | [] => simKs_nil _
  | x :: r => by rw [simKs_cons, sim_refl x, sims_refl r]; rfl
end
theorem zr_leaf {k n : Int} (h : k ≠ 4) : zrP (.mk k n []) := zr_mk.2 ⟨fun e => absurd e h, zrKs_nil⟩
theorem zr_one {k n : Int} {x : Lv} (h : k ≠ 4) (hx : zrP x) : zrP (.mk k n [x]) := zr_mk.2 ⟨fun e => absurd e h, zrKs_cons.2 ⟨hx, zrKs_nil⟩⟩
theorem own_var {i : Nat} (hi : i ≤ 1000) : owP (.mk 2 i []) = .mk 2 i [] := by rw [own_eq (var_sound hi), cpP, cpKs, if_neg (by decide)]
theorem zr_varL {k : Int} {i : Nat} (hi : i ≤ 1000) : zrP (varL k i) := by
  unfold varL
  by_cases hk : k < 1
  · rw [plP_own hk, own_var hi]; exact zr_leaf (by decide)
  · rw [plP_new hk (by simp [Lv.kind]), own_var hi]; exact zr_one (by decide) (zr_leaf (by decide))
theorem zr_fold {o : Lv} {r : List Lv} (ho : zrP o) (hr : ∀ p ∈ r, zrP p) : zrP (foldM o r) := by
  induction r generalizing o with
  | nil => exact ho
  | cons p r ih => exact ih (zr_mk.2 ⟨fun _ => rfl, zrKs_cons.2 ⟨ho, zrKs_cons.2 ⟨hr p (by simp), zrKs_nil⟩⟩⟩) fun q hq => hr q (by simp [hq])
theorem zr_lvl {f : Nf} (hlen : f.2.length ≤ 1001) : zrP (lvlN f) := by
  have hp : ∀ p ∈ partsN f, zrP p := by
    intro p hp
    rcases (mem_parts _).1 hp with ⟨_, rfl⟩ | ⟨i, hi, hr, rfl⟩
    · exact zr_leaf (by decide)
    · exact zr_varL (by omega)
  unfold lvlN
  cases h : partsN f with
  | nil => exact zr_leaf (by decide)
  | cons x r =>
    rw [h] at hp
    exact zr_fold (hp x (by simp)) fun p hp' => hp p (by simp [hp'])
theorem short_len_le' {l : Lv} (h : soundB l = true) : (shortN (sumP l)).2.length ≤ 1001 := Nat.le_trans (short_len_le _) (len_le (good_of_sound h))
theorem red_sim {a b : Lv} (ha : soundB a = true) (hb : soundB b = true) : simB (redP a) (redP b) = eqP a b := by
  have key := red_eq ha hb
  cases h : eqP a b with
  | true => rw [key.1 h]; exact sim_refl _
  | false =>
    cases h2 : simB (redP a) (redP b) with
    | false => rfl
    | true =>
      have := sim_eq _ _ (zr_lvl (short_len_le' ha)) (zr_lvl (short_len_le' hb)) h2
      rw [key.2 this] at h
      cases h
theorem red_sz {a : Lv} (ha : soundB a = true) : sz (redP a) ≤ 5000 := Nat.le_trans (sz_lvl (short_len_le' ha)) (by decide)
set_option maxHeartbeats 4000000 in
theorem reduce_calls (A : Option Addr) (c : Nat) (l : Lv) (w : World) (hs : soundB l = true) (hin : LvIn w w.heap.size A c l) : Calls Try.prog 25 #[lvV A c l] w (LvGot w (fun _ => False) (redP l)) := by
  have HIN := Aside0.mk hin
  have HS := Aside0.mk hs
  have HOK := Aside0.mk (sumP_ok hs)
  have HNE := Aside0.mk (parts_ne (sumP_ok hs))
  have HLN := Aside0.mk (short_len_le' hs)
  have HSO := Aside0.mk (short_ok (sumP_ok hs))
  have hl9 : l.kids.length ≤ 9223372036854775807 := by have := hin.len; omega
  clear hin hs
  unfold lvV
  have HB0 := Aside0.mk (two_boxes (w := w) (.cells #[.int .i64 l.kind, .int .i64 l.num, .slice A l.kids.length c] 24 (0, 0)) (.cells #[.int .i64 0, .int .i64 0, .slice none 0 0] 24 (0, 0)))
  have HX0 := Aside0.mk (box0 w (.cells #[.int .i64 l.kind, .int .i64 l.num, .slice A l.kids.length c] 24 (0, 0)) (.cells #[.int .i64 0, .int .i64 0, .slice none 0 0] 24 (0, 0)))
  have HY0 := Aside0.mk (box1 w (.cells #[.int .i64 l.kind, .int .i64 l.num, .slice A l.kids.length c] 24 (0, 0)) (.cells #[.int .i64 0, .int .i64 0, .slice none 0 0] 24 (0, 0)))
  go_enter Try.func25, Try.ntmps25
  go_wp2_with (first
    | (go_at_call 33; go_must (refine (sound_calls A c l _ (LvS.all (HIN.out.stay HB0.out))).mono ?_; rintro e w1 ⟨rfl, hb⟩; rw [HS.out]; have HB1 := Aside0.mk (below_then HB0.out HB0.out.size hb); have HY1 := Aside0.mk (blk_below HY0.out hb); obtain ⟨p0, p1, p2, -, -, -⟩ := row3 (blk_below HX0.out hb); clear hb))
    | (go_at_call 34; go_must (refine (of_nil_calls l HS.out A c _ (LvS.all (HIN.out.stay HB1.out))).mono ?_; rintro e w2 ⟨A2, n2, c2, rfl, hcap2, hi2, hb⟩; have HI2 := Aside0.mk hi2; have HCAP2 := Aside0.mk hcap2; have HB2 := Aside0.mk (below_then HB1.out HB1.out.size hb); have HY2 := Aside0.mk (blk_below HY1.out hb); clear hb hi2 hcap2))
    | (go_at_call 38; go_must (refine (short_calls (fun _ => True) A2 n2 c2 (sumP l).1 (sumP l).2 _ (HI2.out.mono fun _ _ _ => trivial) HCAP2.out).mono ?_; obtain ⟨f, hf⟩ : ∃ f, f = shortN ((sumP l).1, (sumP l).2) := ⟨_, rfl⟩; rw [← hf]; have HF := Aside0.mk hf; rintro e w3 ⟨A3, n3, c3, rfl, hcap3, hi3, hb⟩; have HI3 := Aside0.mk hi3.1; have HN3 := Aside0.mk hi3.1.1; have HB3 := Aside0.mk (below_then HB2.out HB2.out.size hb); have HY3 := Aside0.mk (blk_below HY2.out hb); clear hb hi3 hcap3 hf))
    | (go_at_call 43; go_must (refine (level_calls A3 n3 c3 f.1 f.2 _ HI3.out (by rw [HF.out]; exact HSO.out) (by rw [← HN3.out, HF.out]; exact HLN.out) (by rw [HF.out]; exact HNE.out)).mono ?_; obtain ⟨x, hx⟩ : ∃ x, x = lvlN (f.1, f.2) := ⟨_, rfl⟩; rw [← hx]; have HXE := Aside0.mk (show redP l = x by rw [hx, HF.out]; rfl); rintro e w4 ⟨A4, c4, rfl, hl4, hb⟩; have HL4 := Aside0.mk hl4; have HZ4 := Aside0.mk HB3.out.size; have HB4 := Aside0.mk (below_then HB3.out HB3.out.size hb); have HY4 := Aside0.mk (blk_below HY3.out hb); have HYL := Aside0.mk (blk_lt HY3.out); obtain ⟨q0, q1, q2, z0, z1, z2⟩ := row3 HY4.out; clear hb hl4 hx; simp only [lvV])))
  refine bodyPost_ret (results_c rfl _ _ (w.heap.size + 1) 24 #[.int .i64 x.kind, .int .i64 x.num, .slice A4 x.kids.length c4] (0, 0) _ rfl (set3 HY4.out) Try.underlying24 rfl (by kernel_rfl)) rfl ?_
  have hch := chg_set3 w4 (w.heap.size + 1) (.int .i64 x.kind) (.int .i64 x.num) (.slice A4 x.kids.length c4)
  have hyl := HYL.out
  have hz4 := HZ4.out
  rw [HXE.out]
  exact ⟨A4, c4, rfl, (HL4.out.same fun b hb hz => hch.block b hz (by rcases hb with hb | hb; exact hb.elim; omega)).mono fun b hb _ => hb.elim .inl fun h => .inr (Nat.le_trans hz4 h), Chg.trans_below HB4.out hch (fun _ e => by omega) HB4.out.size⟩
end Go.Proofs.Ytjlhbaohippidaa

/-! OpsR -/
namespace Go.Proofs.Ytjlhbaohippidaa
open Go.RowKit Go.Proofs.YtjlhbaohippidaaW.PrintWords Go.RegionInvYtjlhbaohippidaa Go.RegionEYtjlhbaohippidaa
section
variable {ops : Array Oper} {Q : Exit → Act → World → Prop} {R : Nat → Prop} {a : Act} {w : World} {o : Oper} {T : Nat → Prop}

theorem obE_lvReduce {l : Lv} {O1 T1 : Nat → Prop} {x : Operand} {ts : Array TypeId} (ho : o.op = .call { callee := .value (.func 25), args := #[x], argTypes := ts }) (hw : Region.wanted o (yielded ops a.tmps) = true)
    (h1 : LvV T1 l (a.eval x) w O1) (hs : soundB l = true) : OwesE Try.prog ops Q R (LvV T (redP l)) o a w := by
  obtain ⟨A1, c1, e1, h1⟩ := h1.all
  refine obE_call #[lvV A1 c1 l] Try.func25 rfl rfl ho (by simp only [List.map_cons, List.map_nil]; rw [e1]) hw ((reduce_calls A1 c1 l w hs h1).mono ?_)
  rintro e w' ⟨A, c, rfl, hl, hB⟩
  exact ⟨_, fun k => k < w'.heap.size ∧ w.heap.size ≤ k, rfl, ⟨A, c, rfl, hl.mono fun k h hz => h.elim (fun h => h.elim) fun h => .inr ⟨hz, h⟩⟩, Chg.of_below hB, fun k h => .inr ⟨h.2, h.1⟩⟩
theorem obE_lvSame {l1 l2 : Lv} {O1 O2 T1 T2 : Nat → Prop} {x y : Operand} {ts : Array TypeId} (ho : o.op = .call { callee := .value (.func 22), args := #[x, y], argTypes := ts }) (hw : Region.wanted o (yielded ops a.tmps) = true)
    (h1 : LvV T1 l1 (a.eval x) w O1) (h2 : LvV T2 l2 (a.eval y) w O2) (hz : sz l1 ≤ 5000) {bb : Bool} (he : simB l1 l2 = bb) : OwesE Try.prog ops Q R (fun v _ _ => v = .bool bb) o a w := by
  subst he
  obtain ⟨A1, c1, e1, h1⟩ := h1.all
  obtain ⟨A2, c2, e2, h2⟩ := h2.all
  refine obE_call #[lvV A1 c1 l1, lvV A2 c2 l2] Try.func22 rfl rfl ho (by simp only [List.map_cons, List.map_nil]; rw [e1, e2]) hw ((refSame_calls A1 A2 c1 c2 l1 l2 w h1 h2 hz).mono ?_)
  rintro e w' ⟨rfl, hB⟩
  exact ⟨_, fun _ => False, rfl, rfl, Chg.of_below hB, fun k h => h.elim⟩
end
section
variable {P : Program} {ops : Array Oper} {Q : Exit → Act → World → Prop} {Cj : List Nat} {O : Nat → Nat → Prop} {G : Value → World → (Nat → Prop) → Prop} {o : Oper} {a : Act} {w : World}
theorem ob_neqBool {t t' : TypeId} {x y : Operand} {m n : Bool} (b : Bool) (ho : o.op = .binOp .neq t x y t') (hx : a.eval x = .bool m) (hy : a.eval y = .bool n) (hu : P.underlying t = some .bool) (hb : (m != n) = b)
    (hw : Region.wanted o (yielded ops a.tmps) = true) (hG : G (.bool b) w fun _ => False) : Owes P ops Q Cj O G o a w :=
  ob_run hw (by unfold execOp; rw [ho]; simp only []; rw [hx, hy]; subst hb; simp [go_sem, run_neq_bool w t m n hu, bne]) hG
end
end Go.Proofs.Ytjlhbaohippidaa
