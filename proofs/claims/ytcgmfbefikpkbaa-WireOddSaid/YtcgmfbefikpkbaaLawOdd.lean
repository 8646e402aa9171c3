/-
  WireOdd: functions that tell counts that may not be, or that there aren't: the walk.
-/
import Derived.Test.YtcgmfbefikpkbaaWireOR
namespace Go.Proofs.Ytcgmfbefikpkbaa
open Go.RowKit Go.Proofs.YtcgmfbefikpkbaaW.PrintWords Go.RegionInvYtcgmfbefikpkbaa

set_option maxRecDepth 100000 in
set_option maxHeartbeats 4000000 in
theorem odd_law (A : Option Addr) (n c : Nat) (xs : List Int) (k : Int) (w : World) (hr : ReadsInt w .u8 A n xs) (hB : Bytes xs) (hl : n ≤ 140737488351232) (hk0 : -9223372036854775808 ≤ k) (hk1 : k ≤ 9223372036854775807) :
    Calls Try.prog 8 #[.slice A n c, .int .i64 k] w fun e w' => e = .returned (.bool true) ∧ Below w.heap.size w w' := by
  have HN := Aside0.mk hr.1
  have hb0 : Below w.heap.size w (w.alloc (.cells #[.int .i64 k] 3)) := (Below.refl _ _).alloc (Nat.le_refl _) _
  have HR := Aside0.mk (hr.below hb0)
  have hg : (w.alloc (.cells #[.int .i64 k] 3)).cell? ⟨w.heap.size, 0, none⟩ = some (.int .i64 k) := by
    rw [cell_of_row _ w.heap.size 0 #[.int .i64 k] 3 (0, 0) (heap_alloc_new w _)]; rfl
  have HG := Aside0.mk hg
  have HB0 := Aside0.mk hb0
  clear hr hb0 hg
  go_enter Try.func8, Try.ntmps8
  have hn0 := HN.out
  by_cases hkn : k = n
  · have HW := Aside0.mk (oddW_eq hkn)
    have hq : (k != (n : Int)) = false := by simp [hkn]
    by_cases h1 : 1 ≤ k
    · have HE := Aside0.mk (oddE_in (k := k) (n := xs.length) ⟨h1, by omega⟩)
      have h2 : k ≤ n := by omega
      clear hkn hn0
      go_upto_region 8 with (go_at_call 31; go_must (refine (wholeOdd_calls A n c w.heap.size k _ HG.out).mono ?_; rintro e w1 ⟨rfl, hb⟩; rw [HW.out]; have HB1 := Aside0.mk (below_then HB0.out HB0.out.size hb); have HR1 := Aside0.mk (HR.out.below hb); have hg1 := (hb.cell (p := ⟨w.heap.size, 0, none⟩) (World.block_lt_of_cell? _ _ HG.out)).trans HG.out; clear hb))
      have HG1 := Aside0.mk hg1
      clear hg1 hq
      go_upto_region 11 with (first
        | (go_at_call 32; go_must (refine (listNil_calls A n c 5 _).mono ?_; rintro e w2 ⟨rfl, hb⟩; have HB2 := Aside0.mk (below_then HB1.out HB1.out.size hb); have HR2 := Aside0.mk (HR1.out.below hb); have HG2 := Aside0.mk ((hb.cell (p := ⟨w.heap.size, 0, none⟩) (World.block_lt_of_cell? _ _ HG1.out)).trans HG1.out); clear hb))
        | (go_at_call 31; go_must (refine (wholeNil_calls A n c _).mono ?_; rintro e w3 ⟨rfl, hb⟩; have HB3 := Aside0.mk (below_then HB2.out HB2.out.size hb); have HR3 := Aside0.mk (HR2.out.below hb); have HG3 := Aside0.mk ((hb.cell (p := ⟨w.heap.size, 0, none⟩) (World.block_lt_of_cell? _ _ HG2.out)).trans HG2.out); clear hb))
        | (go_at_call 14; go_must (refine (put_calls none 0 0 [] 1 _ (reads_nil _ _) (by decide) (by decide) (by decide)).mono ?_; rintro e w4 ⟨v4, rfl, ho, hb⟩; rw [List.nil_append, putN_lt (by decide)] at ho; have HO4 := Aside0.mk ho; have HB4' := Aside0.mk hb; have HB4 := Aside0.mk (below_then HB3.out HB3.out.size hb); have HR4 := Aside0.mk (HR3.out.below hb); have HG4 := Aside0.mk ((hb.cell (p := ⟨w.heap.size, 0, none⟩) (World.block_lt_of_cell? _ _ HG3.out)).trans HG3.out); clear hb ho)))
      have hgl := World.block_lt_of_cell? _ _ HG3.out
      go_upto_region 12 with (first
        | (at_builtin; go_must (refine print_append_row (w0 := w4) w3.heap.size rfl (.tmp 52) (.tmp 53) 22 5 .u8 1 rfl Try.underlying22 infoU8 (by decide) v4 [1] xs A n c rfl rfl HO4.out HR4.out (Below.refl _ _) HB4'.out.size (by simp; omega) ?_; intro v5 w5 ho hb _ _; obtain ⟨A5, m5, c5, rfl, hm5, -, hr5⟩ := OwnB.reads ho; have HR5 := Aside0.mk hr5; have hm5' : m5 ≤ 140737488355000 := (by have := HN.out; simp at hm5; omega); have HR5b := Aside0.mk (reads_old HR4.out (reads_blocks HR3.out) hb); have HB5 := Aside0.mk (HB4.out.trans (hb.mono (Nat.le_trans HB3.out.size (Nat.le_refl _)))); have HG5 := Aside0.mk ((hb.cell (p := ⟨w.heap.size, 0, none⟩) hgl).trans HG4.out); clear hb ho hr5 hm5))
        | (go_at_call 32; go_must (refine (listOdd_calls A5 m5 c5 w.heap.size k xs _ HR5.out hB HG5.out hm5' hk0 hk1).mono ?_; rintro e w6 ⟨v6, x6, rfl, hb⟩; rw [HE.out]; have HB6 := Aside0.mk (below_then HB5.out HB5.out.size hb); have HR6 := Aside0.mk (HR5b.out.below hb); have HG6 := Aside0.mk ((hb.cell (p := ⟨w.heap.size, 0, none⟩) (World.block_lt_of_cell? _ _ HG5.out)).trans HG5.out); clear hb)))
      refine woin_region w6 A n c w.heap.size xs k HR6.out HG6.out (by omega) h1 h2 ?_
      intro w7 u89 O89 u90 O90 hb7 _ _ _ _
      have HB7 := Aside0.mk (below_then HB6.out HB6.out.size hb7)
      clear hb7
      go_wp2
      go_ret
      exact ⟨rfl, HB7.out⟩
    · have HE := Aside0.mk (oddE_out (k := k) (n := xs.length) (by omega))
      have h1' : k < 1 := by omega
      clear hkn hn0 h1
      go_upto_region 8 with (go_at_call 31; go_must (refine (wholeOdd_calls A n c w.heap.size k _ HG.out).mono ?_; rintro e w1 ⟨rfl, hb⟩; rw [HW.out]; have HB1 := Aside0.mk (below_then HB0.out HB0.out.size hb); have HR1 := Aside0.mk (HR.out.below hb); have hg1 := (hb.cell (p := ⟨w.heap.size, 0, none⟩) (World.block_lt_of_cell? _ _ HG.out)).trans HG.out; clear hb))
      have HG1 := Aside0.mk hg1
      clear hg1 hq
      go_upto_region 11 with (first
        | (go_at_call 32; go_must (refine (listNil_calls A n c 5 _).mono ?_; rintro e w2 ⟨rfl, hb⟩; have HB2 := Aside0.mk (below_then HB1.out HB1.out.size hb); have HR2 := Aside0.mk (HR1.out.below hb); have HG2 := Aside0.mk ((hb.cell (p := ⟨w.heap.size, 0, none⟩) (World.block_lt_of_cell? _ _ HG1.out)).trans HG1.out); clear hb))
        | (go_at_call 31; go_must (refine (wholeNil_calls A n c _).mono ?_; rintro e w3 ⟨rfl, hb⟩; have HB3 := Aside0.mk (below_then HB2.out HB2.out.size hb); have HR3 := Aside0.mk (HR2.out.below hb); have HG3 := Aside0.mk ((hb.cell (p := ⟨w.heap.size, 0, none⟩) (World.block_lt_of_cell? _ _ HG2.out)).trans HG2.out); clear hb))
        | (go_at_call 14; go_must (refine (put_calls none 0 0 [] 1 _ (reads_nil _ _) (by decide) (by decide) (by decide)).mono ?_; rintro e w4 ⟨v4, rfl, ho, hb⟩; rw [List.nil_append, putN_lt (by decide)] at ho; have HO4 := Aside0.mk ho; have HB4' := Aside0.mk hb; have HB4 := Aside0.mk (below_then HB3.out HB3.out.size hb); have HR4 := Aside0.mk (HR3.out.below hb); have HG4 := Aside0.mk ((hb.cell (p := ⟨w.heap.size, 0, none⟩) (World.block_lt_of_cell? _ _ HG3.out)).trans HG3.out); clear hb ho)))
      have hgl := World.block_lt_of_cell? _ _ HG3.out
      go_upto_region 12 with (first
        | (at_builtin; go_must (refine print_append_row (w0 := w4) w3.heap.size rfl (.tmp 52) (.tmp 53) 22 5 .u8 1 rfl Try.underlying22 infoU8 (by decide) v4 [1] xs A n c rfl rfl HO4.out HR4.out (Below.refl _ _) HB4'.out.size (by simp; omega) ?_; intro v5 w5 ho hb _ _; obtain ⟨A5, m5, c5, rfl, hm5, -, hr5⟩ := OwnB.reads ho; have HR5 := Aside0.mk hr5; have hm5' : m5 ≤ 140737488355000 := (by have := HN.out; simp at hm5; omega); have HR5b := Aside0.mk (reads_old HR4.out (reads_blocks HR3.out) hb); have HB5 := Aside0.mk (HB4.out.trans (hb.mono (Nat.le_trans HB3.out.size (Nat.le_refl _)))); have HG5 := Aside0.mk ((hb.cell (p := ⟨w.heap.size, 0, none⟩) hgl).trans HG4.out); clear hb ho hr5 hm5))
        | (go_at_call 32; go_must (refine (listOdd_calls A5 m5 c5 w.heap.size k xs _ HR5.out hB HG5.out hm5' hk0 hk1).mono ?_; rintro e w6 ⟨v6, x6, rfl, hb⟩; rw [HE.out]; have HB6 := Aside0.mk (below_then HB5.out HB5.out.size hb); have HR6 := Aside0.mk (HR5b.out.below hb); have HG6 := Aside0.mk ((hb.cell (p := ⟨w.heap.size, 0, none⟩) (World.block_lt_of_cell? _ _ HG5.out)).trans HG5.out); clear hb)))
      refine wolo_region w6 A n c w.heap.size xs k HR6.out HG6.out (by omega) h1' ?_
      intro w7 u89 O89 u90 O90 hb7 _ _ _ _
      have HB7 := Aside0.mk (below_then HB6.out HB6.out.size hb7)
      clear hb7
      go_wp2
      go_ret
      exact ⟨rfl, HB7.out⟩
  · have HW := Aside0.mk (oddW_ne hkn)
    have hq : (k != (n : Int)) = true := by simp [hkn]
    by_cases h1 : 1 ≤ k
    · by_cases h2 : k ≤ n
      · have HE := Aside0.mk (oddE_in (k := k) (n := xs.length) ⟨h1, by omega⟩)
        clear hkn hn0
        go_upto_region 8 with (go_at_call 31; go_must (refine (wholeOdd_calls A n c w.heap.size k _ HG.out).mono ?_; rintro e w1 ⟨rfl, hb⟩; rw [HW.out]; have HB1 := Aside0.mk (below_then HB0.out HB0.out.size hb); have HR1 := Aside0.mk (HR.out.below hb); have hg1 := (hb.cell (p := ⟨w.heap.size, 0, none⟩) (World.block_lt_of_cell? _ _ HG.out)).trans HG.out; clear hb))
        have HG1 := Aside0.mk hg1
        clear hg1 hq
        go_upto_region 11 with (first
          | (go_at_call 32; go_must (refine (listNil_calls A n c 5 _).mono ?_; rintro e w2 ⟨rfl, hb⟩; have HB2 := Aside0.mk (below_then HB1.out HB1.out.size hb); have HR2 := Aside0.mk (HR1.out.below hb); have HG2 := Aside0.mk ((hb.cell (p := ⟨w.heap.size, 0, none⟩) (World.block_lt_of_cell? _ _ HG1.out)).trans HG1.out); clear hb))
          | (go_at_call 31; go_must (refine (wholeNil_calls A n c _).mono ?_; rintro e w3 ⟨rfl, hb⟩; have HB3 := Aside0.mk (below_then HB2.out HB2.out.size hb); have HR3 := Aside0.mk (HR2.out.below hb); have HG3 := Aside0.mk ((hb.cell (p := ⟨w.heap.size, 0, none⟩) (World.block_lt_of_cell? _ _ HG2.out)).trans HG2.out); clear hb))
          | (go_at_call 14; go_must (refine (put_calls none 0 0 [] 1 _ (reads_nil _ _) (by decide) (by decide) (by decide)).mono ?_; rintro e w4 ⟨v4, rfl, ho, hb⟩; rw [List.nil_append, putN_lt (by decide)] at ho; have HO4 := Aside0.mk ho; have HB4' := Aside0.mk hb; have HB4 := Aside0.mk (below_then HB3.out HB3.out.size hb); have HR4 := Aside0.mk (HR3.out.below hb); have HG4 := Aside0.mk ((hb.cell (p := ⟨w.heap.size, 0, none⟩) (World.block_lt_of_cell? _ _ HG3.out)).trans HG3.out); clear hb ho)))
        have hgl := World.block_lt_of_cell? _ _ HG3.out
        go_upto_region 12 with (first
          | (at_builtin; go_must (refine print_append_row (w0 := w4) w3.heap.size rfl (.tmp 52) (.tmp 53) 22 5 .u8 1 rfl Try.underlying22 infoU8 (by decide) v4 [1] xs A n c rfl rfl HO4.out HR4.out (Below.refl _ _) HB4'.out.size (by simp; omega) ?_; intro v5 w5 ho hb _ _; obtain ⟨A5, m5, c5, rfl, hm5, -, hr5⟩ := OwnB.reads ho; have HR5 := Aside0.mk hr5; have hm5' : m5 ≤ 140737488355000 := (by have := HN.out; simp at hm5; omega); have HR5b := Aside0.mk (reads_old HR4.out (reads_blocks HR3.out) hb); have HB5 := Aside0.mk (HB4.out.trans (hb.mono (Nat.le_trans HB3.out.size (Nat.le_refl _)))); have HG5 := Aside0.mk ((hb.cell (p := ⟨w.heap.size, 0, none⟩) hgl).trans HG4.out); clear hb ho hr5 hm5))
          | (go_at_call 32; go_must (refine (listOdd_calls A5 m5 c5 w.heap.size k xs _ HR5.out hB HG5.out hm5' hk0 hk1).mono ?_; rintro e w6 ⟨v6, x6, rfl, hb⟩; rw [HE.out]; have HB6 := Aside0.mk (below_then HB5.out HB5.out.size hb); have HR6 := Aside0.mk (HR5b.out.below hb); have HG6 := Aside0.mk ((hb.cell (p := ⟨w.heap.size, 0, none⟩) (World.block_lt_of_cell? _ _ HG5.out)).trans HG5.out); clear hb)))
        refine woin_region w6 A n c w.heap.size xs k HR6.out HG6.out (by omega) h1 h2 ?_
        intro w7 u89 O89 u90 O90 hb7 _ _ _ _
        have HB7 := Aside0.mk (below_then HB6.out HB6.out.size hb7)
        clear hb7
        go_wp2
        go_ret
        exact ⟨rfl, HB7.out⟩
      · have HE := Aside0.mk (oddE_out (k := k) (n := xs.length) (by omega))
        have h2' : (n : Int) < k := by omega
        clear hkn hn0 h2
        go_upto_region 8 with (go_at_call 31; go_must (refine (wholeOdd_calls A n c w.heap.size k _ HG.out).mono ?_; rintro e w1 ⟨rfl, hb⟩; rw [HW.out]; have HB1 := Aside0.mk (below_then HB0.out HB0.out.size hb); have HR1 := Aside0.mk (HR.out.below hb); have hg1 := (hb.cell (p := ⟨w.heap.size, 0, none⟩) (World.block_lt_of_cell? _ _ HG.out)).trans HG.out; clear hb))
        have HG1 := Aside0.mk hg1
        clear hg1 hq
        go_upto_region 11 with (first
          | (go_at_call 32; go_must (refine (listNil_calls A n c 5 _).mono ?_; rintro e w2 ⟨rfl, hb⟩; have HB2 := Aside0.mk (below_then HB1.out HB1.out.size hb); have HR2 := Aside0.mk (HR1.out.below hb); have HG2 := Aside0.mk ((hb.cell (p := ⟨w.heap.size, 0, none⟩) (World.block_lt_of_cell? _ _ HG1.out)).trans HG1.out); clear hb))
          | (go_at_call 31; go_must (refine (wholeNil_calls A n c _).mono ?_; rintro e w3 ⟨rfl, hb⟩; have HB3 := Aside0.mk (below_then HB2.out HB2.out.size hb); have HR3 := Aside0.mk (HR2.out.below hb); have HG3 := Aside0.mk ((hb.cell (p := ⟨w.heap.size, 0, none⟩) (World.block_lt_of_cell? _ _ HG2.out)).trans HG2.out); clear hb))
          | (go_at_call 14; go_must (refine (put_calls none 0 0 [] 1 _ (reads_nil _ _) (by decide) (by decide) (by decide)).mono ?_; rintro e w4 ⟨v4, rfl, ho, hb⟩; rw [List.nil_append, putN_lt (by decide)] at ho; have HO4 := Aside0.mk ho; have HB4' := Aside0.mk hb; have HB4 := Aside0.mk (below_then HB3.out HB3.out.size hb); have HR4 := Aside0.mk (HR3.out.below hb); have HG4 := Aside0.mk ((hb.cell (p := ⟨w.heap.size, 0, none⟩) (World.block_lt_of_cell? _ _ HG3.out)).trans HG3.out); clear hb ho)))
        have hgl := World.block_lt_of_cell? _ _ HG3.out
        go_upto_region 12 with (first
          | (at_builtin; go_must (refine print_append_row (w0 := w4) w3.heap.size rfl (.tmp 52) (.tmp 53) 22 5 .u8 1 rfl Try.underlying22 infoU8 (by decide) v4 [1] xs A n c rfl rfl HO4.out HR4.out (Below.refl _ _) HB4'.out.size (by simp; omega) ?_; intro v5 w5 ho hb _ _; obtain ⟨A5, m5, c5, rfl, hm5, -, hr5⟩ := OwnB.reads ho; have HR5 := Aside0.mk hr5; have hm5' : m5 ≤ 140737488355000 := (by have := HN.out; simp at hm5; omega); have HR5b := Aside0.mk (reads_old HR4.out (reads_blocks HR3.out) hb); have HB5 := Aside0.mk (HB4.out.trans (hb.mono (Nat.le_trans HB3.out.size (Nat.le_refl _)))); have HG5 := Aside0.mk ((hb.cell (p := ⟨w.heap.size, 0, none⟩) hgl).trans HG4.out); clear hb ho hr5 hm5))
          | (go_at_call 32; go_must (refine (listOdd_calls A5 m5 c5 w.heap.size k xs _ HR5.out hB HG5.out hm5' hk0 hk1).mono ?_; rintro e w6 ⟨v6, x6, rfl, hb⟩; rw [HE.out]; have HB6 := Aside0.mk (below_then HB5.out HB5.out.size hb); have HR6 := Aside0.mk (HR5b.out.below hb); have HG6 := Aside0.mk ((hb.cell (p := ⟨w.heap.size, 0, none⟩) (World.block_lt_of_cell? _ _ HG5.out)).trans HG5.out); clear hb)))
        refine wohi_region w6 A n c w.heap.size xs k HR6.out HG6.out (by omega) h1 h2' ?_
        intro w7 u89 O89 u90 O90 hb7 _ _ _ _
        have HB7 := Aside0.mk (below_then HB6.out HB6.out.size hb7)
        clear hb7
        go_wp2
        go_ret
        exact ⟨rfl, HB7.out⟩
    · have HE := Aside0.mk (oddE_out (k := k) (n := xs.length) (by omega))
      have h1' : k < 1 := by omega
      clear hkn hn0 h1
      go_upto_region 8 with (go_at_call 31; go_must (refine (wholeOdd_calls A n c w.heap.size k _ HG.out).mono ?_; rintro e w1 ⟨rfl, hb⟩; rw [HW.out]; have HB1 := Aside0.mk (below_then HB0.out HB0.out.size hb); have HR1 := Aside0.mk (HR.out.below hb); have hg1 := (hb.cell (p := ⟨w.heap.size, 0, none⟩) (World.block_lt_of_cell? _ _ HG.out)).trans HG.out; clear hb))
      have HG1 := Aside0.mk hg1
      clear hg1 hq
      go_upto_region 11 with (first
        | (go_at_call 32; go_must (refine (listNil_calls A n c 5 _).mono ?_; rintro e w2 ⟨rfl, hb⟩; have HB2 := Aside0.mk (below_then HB1.out HB1.out.size hb); have HR2 := Aside0.mk (HR1.out.below hb); have HG2 := Aside0.mk ((hb.cell (p := ⟨w.heap.size, 0, none⟩) (World.block_lt_of_cell? _ _ HG1.out)).trans HG1.out); clear hb))
        | (go_at_call 31; go_must (refine (wholeNil_calls A n c _).mono ?_; rintro e w3 ⟨rfl, hb⟩; have HB3 := Aside0.mk (below_then HB2.out HB2.out.size hb); have HR3 := Aside0.mk (HR2.out.below hb); have HG3 := Aside0.mk ((hb.cell (p := ⟨w.heap.size, 0, none⟩) (World.block_lt_of_cell? _ _ HG2.out)).trans HG2.out); clear hb))
        | (go_at_call 14; go_must (refine (put_calls none 0 0 [] 1 _ (reads_nil _ _) (by decide) (by decide) (by decide)).mono ?_; rintro e w4 ⟨v4, rfl, ho, hb⟩; rw [List.nil_append, putN_lt (by decide)] at ho; have HO4 := Aside0.mk ho; have HB4' := Aside0.mk hb; have HB4 := Aside0.mk (below_then HB3.out HB3.out.size hb); have HR4 := Aside0.mk (HR3.out.below hb); have HG4 := Aside0.mk ((hb.cell (p := ⟨w.heap.size, 0, none⟩) (World.block_lt_of_cell? _ _ HG3.out)).trans HG3.out); clear hb ho)))
      have hgl := World.block_lt_of_cell? _ _ HG3.out
      go_upto_region 12 with (first
        | (at_builtin; go_must (refine print_append_row (w0 := w4) w3.heap.size rfl (.tmp 52) (.tmp 53) 22 5 .u8 1 rfl Try.underlying22 infoU8 (by decide) v4 [1] xs A n c rfl rfl HO4.out HR4.out (Below.refl _ _) HB4'.out.size (by simp; omega) ?_; intro v5 w5 ho hb _ _; obtain ⟨A5, m5, c5, rfl, hm5, -, hr5⟩ := OwnB.reads ho; have HR5 := Aside0.mk hr5; have hm5' : m5 ≤ 140737488355000 := (by have := HN.out; simp at hm5; omega); have HR5b := Aside0.mk (reads_old HR4.out (reads_blocks HR3.out) hb); have HB5 := Aside0.mk (HB4.out.trans (hb.mono (Nat.le_trans HB3.out.size (Nat.le_refl _)))); have HG5 := Aside0.mk ((hb.cell (p := ⟨w.heap.size, 0, none⟩) hgl).trans HG4.out); clear hb ho hr5 hm5))
        | (go_at_call 32; go_must (refine (listOdd_calls A5 m5 c5 w.heap.size k xs _ HR5.out hB HG5.out hm5' hk0 hk1).mono ?_; rintro e w6 ⟨v6, x6, rfl, hb⟩; rw [HE.out]; have HB6 := Aside0.mk (below_then HB5.out HB5.out.size hb); have HR6 := Aside0.mk (HR5b.out.below hb); have HG6 := Aside0.mk ((hb.cell (p := ⟨w.heap.size, 0, none⟩) (World.block_lt_of_cell? _ _ HG5.out)).trans HG5.out); clear hb)))
      refine wolo_region w6 A n c w.heap.size xs k HR6.out HG6.out (by omega) h1' ?_
      intro w7 u89 O89 u90 O90 hb7 _ _ _ _
      have HB7 := Aside0.mk (below_then HB6.out HB6.out.size hb7)
      clear hb7
      go_wp2
      go_ret
      exact ⟨rfl, HB7.out⟩
end Go.Proofs.Ytcgmfbefikpkbaa
