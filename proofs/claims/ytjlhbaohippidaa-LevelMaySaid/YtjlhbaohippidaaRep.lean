/-
  The walk of slices.Repeat, of one number, and of math/bits.Mul at one.
-/
import Derived.Test.YtjlhbaohippidaaNfP
import Derived.Test.YtjlhbaohippidaaWMore
import Derived.Laws.CopyOwn
import Derived.Shelf.Bits.Mul64
namespace Go.Proofs.Ytjlhbaohippidaa
open Go.RowKit Go.Proofs.YtjlhbaohippidaaW.PrintWords Go.Proofs.YtjlhbaohippidaaW.PrintMore Go.RegionInvYtjlhbaohippidaa

set_option maxHeartbeats 2000000 in
theorem mul64_calls (y : Nat) (hy : y ≤ 4294967295) (w : World) : Calls Try.prog 59 #[.int .u64 1, .int .u64 y] w fun e w' => e = .returned (.tuple #[.int .u64 0, .int .u64 y]) ∧ w' = w := by
  have h1 : bits .and .u64 1 4294967295 = 1 := by have := Mul64.maskN 1 (by decide); simpa using this
  have h0 : bits .and .u64 0 4294967295 = 0 := by have := Mul64.maskN 0 (by decide); simpa using this
  have h2 : bits .and .u64 (y : Int) 4294967295 = y := by have := Mul64.maskN y (by omega); rwa [Nat.mod_eq_of_lt (by omega)] at this
  have h3 : (y : Int) / 4294967296 = 0 := by omega
  have h4 : IntKind.u64.wrap (y : Int) = y := Mul64.wrapN y (by omega)
  have h5 : IntKind.u64.wrap 0 = 0 := Mul64.wrapN 0 (by decide)
  go_enter Try.func59, Try.ntmps59
  go_wp2
  go_ret2
  exact ⟨rfl, rfl⟩
set_option maxHeartbeats 2000000 in
theorem mul_calls (y : Nat) (hy : y ≤ 4294967295) (w : World) : Calls Try.prog 57 #[.int .u64 1, .int .u64 y] w fun e w' => e = .returned (.tuple #[.int .u64 0, .int .u64 y]) ∧ w' = w := by
  go_enter Try.func57, Try.ntmps57
  go_wp2_with (go_at_call 59; refine (mul64_calls y hy w).mono ?_; rintro e w' ⟨rfl, hw⟩; rw [hw])
  go_ret2
  exact ⟨rfl, rfl⟩

def repL (m : Int) (k j : Nat) : List Value := List.replicate j (.int .i64 m) ++ List.replicate (k - j) (.int .i64 0)
theorem repL_made (m : Int) (k : Nat) : madeCells #[.int .i64 0] k = (repL m k 0).toArray := by
  apply Array.ext
  · simp [madeCells, repL]
  · intro i h1 h2
    simp [madeCells, repL, Nat.mod_one]
theorem repL_splice (m : Int) (k j n : Nat) (h : j + n ≤ k) : splice (repL m k j) j (List.replicate n (.int .i64 m)) = repL m k (j + n) := by
  unfold splice repL
  have e1 : (List.replicate j (Value.int .i64 m) ++ List.replicate (k - j) (Value.int .i64 0)).take j = List.replicate j (Value.int .i64 m) := by
    rw [List.take_append_of_le_length (by simp)]; simp
  have e2 : (List.replicate j (Value.int .i64 m) ++ List.replicate (k - j) (Value.int .i64 0)).drop (j + n) = List.replicate (k - (j + n)) (Value.int .i64 0) := by
    rw [List.drop_append, List.length_replicate, List.drop_eq_nil_of_le (by simp), List.nil_append, List.drop_replicate]; congr 1; omega
  simp only [List.length_replicate]
  rw [e1, e2, ← List.append_assoc]
  congr 1
  simp
theorem repL_full (m : Int) (k : Nat) : repL m k k = List.replicate k (.int .i64 m) := by simp [repL]
theorem repL_get (m : Int) (k j i : Nat) (h : i < j) : (repL m k j)[i]? = some (.int .i64 m) := by
  unfold repL
  rw [List.getElem?_append_left (by simpa using h)]
  simp [h]
theorem srcRep {w : World} {p n : Nat} {v : Value} {cs : Array Value} {t : TypeId} (h : w.heap[p]? = some (.cells cs t (0, 0))) (hc : ∀ i, i < n → cs.toList[i]? = some v) : ∀ j u, (List.replicate n v)[j]? = some u → w.cell? ((⟨p, 0, none⟩ : Addr).add j) = some u := by
  intro j u hu
  have hin : j < n := by have := (List.getElem?_eq_some_iff.1 hu).1; simpa using this
  rw [List.getElem?_replicate, if_pos hin] at hu
  rw [add_flat, cell_of_row _ _ _ _ _ _ h, ← hu, ← hc j hin]
  simp
theorem one_at {v : Value} : ∀ i, i < 1 → (#[v] : Array Value).toList[i]? = some v := by
  intro i hi
  obtain rfl : i = 0 := by omega
  rfl
theorem oneRep {n : Nat} {m : Int} : ∀ v ∈ List.replicate n (Value.int .i64 m), v.oneCell' = true := by
  intro v hv; rw [List.eq_of_mem_replicate hv]; rfl
theorem rep_copy {w wr : World} {m : Int} {k j n : Nat} (HB : Below w.heap.size w wr) (hst : wr.heap[w.heap.size]? = some (.cells (repL m k j).toArray 3 (0, 0))) (hj0 : 0 < j) (hn0 : 0 < n) (hnk : j + n ≤ k) (hn : n = min j (k - j)) (hkj : k ≠ j) :
    ∃ w1, (Builtin.copy_ #[29, 29] 3 #[.slice (if k = j then some ⟨w.heap.size, 0, none⟩ else some ⟨w.heap.size, j, none⟩) (k - j) (k - j), .slice (some ⟨w.heap.size, 0, none⟩) j k]).run Try.prog wr.drew = .ok (.int .i64 n) w1 ∧
      w1.heap[w.heap.size]? = some (.cells (repL m k (j + n)).toArray 3 (0, 0)) ∧ Below w.heap.size w w1 := by
  rw [if_neg hkj]
  have h := run_copy_row (P := Try.prog) wr.drew 29 29 3 3 w.heap.size j (k - j) (k - j) ⟨w.heap.size, 0, none⟩ j k (repL m k j).toArray 3 (List.replicate n (.int .i64 m)) Try.underlying29 (by kernel_rfl) hst
    (by rw [List.length_replicate]; exact hn) (srcRep hst fun i hi => repL_get m k j i (by omega)) (by simp [repL]; omega) oneRep
  have e : ((repL m k j).toArray.toList.take j ++ List.replicate n (Value.int .i64 m) ++ (repL m k j).toArray.toList.drop (j + (List.replicate n (Value.int .i64 m)).length)) = repL m k (j + n) := by
    have := repL_splice m k j n hnk
    unfold splice at this
    rw [List.append_assoc]
    exact this
  rw [e, List.length_replicate] at h
  exact ⟨_, h, setRow_heap _ _ _ _ _ _ hst, below_setRow (below_drew HB) (Nat.le_refl _) _⟩
def RepPost (w : World) (m : Int) (k : Nat) (e : Ending) (w' : World) : Prop := ∃ g, e = .returned (.slice (some ⟨g, 0, none⟩) k k) ∧ w'.heap[g]? = some (.cells (List.replicate k (.int .i64 m)).toArray 3 (0, 0)) ∧ w.heap.size ≤ g ∧ Below w.heap.size w w'
set_option maxHeartbeats 4000000 in
theorem repeat_calls (m : Int) (k p : Nat) (w : World) (hp : w.heap[p]? = some (.cells #[.int .i64 m] 3 (0, 0))) (hk0 : 0 < k) (hk : k ≤ 2000) :
    Calls Try.prog 53 #[.slice (some ⟨p, 0, none⟩) 1 1, .int .i64 k] w (RepPost w m k) := by
  have HP := Aside0.mk hp
  clear hp
  have hmake := print_make (P := Try.prog) 29 3 .i64 8 Try.underlying29 infoI64 (by decide) k (by omega)
  have hw1 : IntKind.u64.wrap (k : Int) = k := Mul64.wrapN k (by omega)
  go_enter Try.func53, Try.ntmps53
  go_upto_region 7 with (go_at_call 57; refine (mul_calls k (by omega) _).mono ?_; rintro e w' ⟨rfl, hw⟩; rw [hw])
  have hz0 : (w.alloc (.cells (madeCells #[.int .i64 0] k) 3 (0, 0))).heap[w.heap.size]? = some (.cells (repL m k 0).toArray 3 (0, 0)) := by rw [← repL_made]; exact blk_new _ _
  have hp0 := blk_alloc HP.out (.cells (madeCells #[.int .i64 0] k) 3 (0, 0))
  have HZ0 := Aside0.mk hz0
  have HP0 := Aside0.mk hp0
  clear hz0 hp0
  go_upto_block 0 with (first
    | ((with_reducible refine gate_builtin (b := .copy) (xs := #[.tmp 31, .tmp 32]) rfl ?_); go_must (refine wpList_copy_splice rfl (.tmp 31) (.tmp 32) 29 29 rfl 3 Try.underlying29 (by kernel_rfl) (some ⟨w.heap.size, 0, none⟩) (some ⟨p, 0, none⟩) k k 1 1 rfl rfl w.heap.size 0 (repL m k 0) 3 HZ0.out (List.replicate 1 (.int .i64 m)) (by rw [List.length_replicate]; exact (Nat.min_eq_left hk0).symm) (fun _ => ⟨rfl, _, rfl, srcRep HP0.out one_at⟩) (by simp [repL]; omega) (by simp [Value.oneCell']) w.heap.size w (below_alloc (Below.refl _ _) _) (Nat.le_refl _) ?_; intro w1 hg1 hb1; have HG1 := Aside0.mk hg1; have HB1 := Aside0.mk hb1; clear hg1 hb1)))
  clear HZ0 HP0
  have hst : w1.heap[w.heap.size]? = some (.cells (repL m k 1).toArray 3 (0, 0)) := by
    have := HG1.out
    have e := repL_splice m k 0 1 (by omega)
    rw [e] at this
    exact this
  have HST := Aside0.mk hst
  clear hst HG1
  go_wp2
  go_loopw [8] (fun i wr => ∃ (j : Nat), i = .int .i64 j ∧ 0 < j ∧ j ≤ k ∧ Aside0 (wr.heap[w.heap.size]? = some (.cells (repL m k j).toArray 3 (0, 0))) ∧ Aside0 (Below w.heap.size w wr)) (fun i _ => k - (intOf i).toNat)
  case atStart => exact ⟨1, rfl, by omega, by omega, HST, HB1⟩
  case round =>
    clear HST HB1
    obtain ⟨j, rfl, hj0, hj, HST, HB⟩ := hrel
    by_cases hlt : j < k
    · go_upto_region 9 with (fail)
      obtain ⟨n, hn⟩ : ∃ n, n = min j (k - j) := ⟨_, rfl⟩
      have hn0 : 0 < n := by omega
      have hnk : j + n ≤ k := by omega
      have HN := Aside0.mk hn
      clear hn
      obtain ⟨w1, hcopy, hst, hb⟩ := rep_copy HB.out HST.out hj0 hn0 hnk HN.out (by omega)
      have HC := Aside0.mk hb
      go_region_law (fail)
      have HST1 := Aside0.mk hst
      clear hst hb HST HB hcopy
      go_wp2
      have hwr : IntKind.i64.wrap ((j : Int) + n) = ((j + n : Nat) : Int) := by rw [IntKind.wrap_i64]; omega
      rw [hwr]
      exact ⟨⟨j + n, rfl, by omega, by omega, HST1⟩, by simp [intOf]; omega⟩
    · obtain rfl : j = k := by omega
      have hlt' : decide ((j : Int) < j) = false := by simp
      go_wp2
      go_ret
      exact ⟨_, rfl, by rw [← repL_full]; exact HST.out, Nat.le_refl _, HB.out⟩
end Go.Proofs.Ytjlhbaohippidaa
