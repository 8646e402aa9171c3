/-
  Plain laws of numbers as bytes: no program in sight.
-/
import Derived.Laws.BitsAllLaws
import Derived.Test.YtcgmfbefikpkbaaWWords
namespace Go.Proofs.Ytcgmfbefikpkbaa
open Go.RowKit Go.Proofs.YtcgmfbefikpkbaaW.PrintWords

def Bytes (xs : List Int) : Prop := ∀ x ∈ xs, 0 ≤ x ∧ x ≤ 255
theorem Bytes.at_ {xs : List Int} (h : Bytes xs) (i : Int) : 0 ≤ rd xs i ∧ rd xs i ≤ 255 := by
  unfold rd
  rw [List.getD_eq_getElem?_getD]
  cases e : xs[i.toNat]? with
  | none => simp
  | some v => exact h v (List.mem_of_getElem? e)
theorem Bytes.append {xs ys : List Int} (h : Bytes xs) (k : Bytes ys) : Bytes (xs ++ ys) := fun x hx => (List.mem_append.1 hx).elim (h x) (k x)
theorem Bytes.drop {xs : List Int} (h : Bytes xs) (n : Nat) : Bytes (xs.drop n) := fun x hx => h x (List.mem_of_mem_drop hx)
theorem Bytes.take {xs : List Int} (h : Bytes xs) (n : Nat) : Bytes (xs.take n) := fun x hx => h x (List.mem_of_mem_take hx)
theorem Bytes.nil : Bytes [] := fun x hx => by cases hx

theorem u8_or128_add {a : Int} (h0 : 0 ≤ a) (h1 : a < 256) : Go.bits .or .u8 a 128 = a % 128 + 128 := by
  obtain ⟨n, rfl⟩ := Int.eq_ofNat_of_zero_le h0
  rw [show (128 : Int) = ((128 : Nat) : Int) from rfl, u8_or_nat n 128 (by omega) (by omega)]
  have hn : n < 256 := by omega
  have : n ||| 128 = n % 128 + 128 := by
    have h : ∀ m : Fin 256, (m.1 ||| 128) = m.1 % 128 + 128 := by decide +kernel
    exact h ⟨n, hn⟩
  rw [this]; omega

/-! ### Put -/
def putN (n : Int) : List Int :=
  if h : 128 ≤ n then (n % 128 + 128) :: putN (n / 128) else [n]
termination_by n.toNat
decreasing_by omega
theorem putN_ge {n : Int} (h : 128 ≤ n) : putN n = (n % 128 + 128) :: putN (n / 128) := by rw [putN]; simp [h]
theorem putN_lt {n : Int} (h : n < 128) : putN n = [n] := by rw [putN]; simp [show ¬ 128 ≤ n by omega]
theorem putN_ne (n : Int) : putN n ≠ [] := by rw [putN]; split <;> simp
theorem putN_len (k : Nat) : ∀ n : Int, n < 128 ^ (k+1) → (putN n).length ≤ k + 1 := by
  induction k with
  | zero => intro n h; rw [putN_lt (by omega)]; simp
  | succ k ih =>
    intro n h
    by_cases h' : 128 ≤ n
    · rw [putN_ge h']
      have := ih (n / 128) (by rw [Int.pow_succ] at h; omega)
      simp; omega
    · rw [putN_lt (by omega)]; simp
theorem putN_len10 {n : Int} (h : n ≤ 18446744073709551615) : (putN n).length ≤ 10 := putN_len 9 n (by omega)
theorem putN_pos (n : Int) : 1 ≤ (putN n).length := by
  have := putN_ne n
  cases h : putN n with
  | nil => exact absurd h this
  | cons _ _ => simp
theorem putN_bytes (k : Nat) : ∀ n : Int, n < 128 ^ (k+1) → 0 ≤ n → Bytes (putN n) := by
  induction k with
  | zero => intro n h h0; rw [putN_lt (by omega)]; intro x hx; simp at hx; omega
  | succ k ih =>
    intro n h h0
    by_cases h' : 128 ≤ n
    · rw [putN_ge h']
      have := ih (n / 128) (by rw [Int.pow_succ] at h; omega) (by omega)
      intro x hx
      rcases List.mem_cons.1 hx with rfl | hx
      · omega
      · exact this x hx
    · rw [putN_lt (by omega)]; intro x hx; simp at hx; omega
theorem putN_bytes10 {n : Int} (h : n ≤ 18446744073709551615) (h0 : 0 ≤ n) : Bytes (putN n) := putN_bytes 9 n (by omega) h0

/-! ### Take -/
def lead : List Int → Nat
  | [] => 0
  | b :: r => if 128 ≤ b then lead r + 1 else 0
theorem lead_le (xs : List Int) : lead xs ≤ xs.length := by
  induction xs with
  | nil => simp [lead]
  | cons b r ih => simp only [lead]; split <;> simp <;> omega
theorem lead_at {xs : List Int} {k : Nat} (h : k < xs.length) (ha : ∀ j, j < k → 128 ≤ xs.getD j 0) : (128 ≤ xs.getD k 0 → k < lead xs) ∧ (xs.getD k 0 < 128 → lead xs = k) := by
  induction xs generalizing k with
  | nil => simp at h
  | cons b r ih =>
    cases k with
    | zero =>
      simp only [lead, List.getD_cons_zero]
      refine ⟨fun hb => ?_, fun hb => ?_⟩
      · rw [if_pos hb]; omega
      · rw [if_neg (by omega)]
    | succ k =>
      have hb : 128 ≤ b := by simpa using ha 0 (by omega)
      have := ih (k := k) (by simpa using h) (fun j hj => by simpa using ha (j+1) (by omega))
      simp only [lead, hb, if_true, List.getD_cons_succ]
      exact ⟨fun h => by have := this.1 h; omega, fun h => by have := this.2 h; omega⟩
theorem lead_all {xs : List Int} (ha : ∀ j, j < xs.length → 128 ≤ xs.getD j 0) : lead xs = xs.length := by
  induction xs with
  | nil => rfl
  | cons b r ih =>
    have hb : 128 ≤ b := by simpa using ha 0 (by simp)
    simp only [lead, hb, if_true, List.length_cons]
    rw [ih (fun j hj => by simpa using ha (j+1) (by simpa using hj))]
theorem lead_ge : ∀ {xs : List Int} {j : Nat}, j < lead xs → 128 ≤ xs.getD j 0 := by
  intro xs
  induction xs with
  | nil => intro j hj; simp [lead] at hj
  | cons c s ih =>
    intro j hj
    by_cases hc : 128 ≤ c
    · simp only [lead, hc, if_true] at hj
      cases j with
      | zero => simpa using hc
      | succ j => rw [List.getD_cons_succ]; exact ih (by omega)
    · simp [lead, hc] at hj
theorem lead_stop {xs : List Int} (h : lead xs < xs.length) : xs[lead xs] < 128 := by
  rcases Int.lt_or_le xs[lead xs] 128 with h' | h'
  · exact h'
  · have := (lead_at h (fun j hj => lead_ge hj)).1
    rw [List.getD_eq_getElem?_getD, List.getElem?_eq_getElem h] at this
    have := this h'; omega
def numOf : List Int → Int
  | [] => 0
  | b :: r => numOf r * 128 + b % 128
theorem numOf_nonneg (xs : List Int) : 0 ≤ numOf xs := by
  induction xs with
  | nil => simp [numOf]
  | cons b r ih => simp only [numOf]; omega
theorem numOf_lt (xs : List Int) : numOf xs < 128 ^ xs.length := by
  induction xs with
  | nil => simp [numOf]
  | cons b r ih => simp only [numOf, List.length_cons, Int.pow_succ]; omega
theorem numOf_drop (j : Nat) : ∀ xs : List Int, numOf (xs.drop j) * 128 ^ j ≤ numOf xs := by
  induction j with
  | zero => intro xs; simp
  | succ j ih =>
    intro xs
    cases xs with
    | nil => simp [numOf]
    | cons b r =>
      have := ih r
      simp only [List.drop_succ_cons, numOf, Int.pow_succ]
      rw [← Int.mul_assoc]
      omega
/-- What the code refuses. -/
def badN (xs : List Int) : Prop := 9 < lead xs ∨ (lead xs = 9 ∧ 1 < rd xs 9) ∨ (0 < lead xs ∧ rd xs (lead xs : Int) = 0)
instance (xs : List Int) : Decidable (badN xs) := by unfold badN; exact inferInstance
def takeN (xs : List Int) : Int × Int × Int :=
  if lead xs = xs.length then (0, 0, 3) else if badN xs then (0, 0, 4) else (numOf (xs.take (lead xs + 1)), (lead xs : Int) + 1, 0)
theorem takeN_short {xs : List Int} (h : lead xs = xs.length) : takeN xs = (0, 0, 3) := by unfold takeN; rw [if_pos h]
theorem takeN_bad {xs : List Int} (h : lead xs ≠ xs.length) (hb : badN xs) : takeN xs = (0, 0, 4) := by unfold takeN; rw [if_neg h, if_pos hb]
theorem takeN_ok {xs : List Int} (h : lead xs ≠ xs.length) (hb : ¬ badN xs) : takeN xs = (numOf (xs.take (lead xs + 1)), (lead xs : Int) + 1, 0) := by unfold takeN; rw [if_neg h, if_neg hb]
theorem rd_nat (xs : List Int) (j : Nat) : rd xs (j : Int) = xs.getD j 0 := by simp [rd]
theorem numOf_take10 (xs : List Int) : numOf (xs.take 10) = numOf (xs.take 9) + (rd xs 9 % 128) * 128 ^ 9 := by
  rcases xs with _ | ⟨a0, _ | ⟨a1, _ | ⟨a2, _ | ⟨a3, _ | ⟨a4, _ | ⟨a5, _ | ⟨a6, _ | ⟨a7, _ | ⟨a8, _ | ⟨a9, r⟩⟩⟩⟩⟩⟩⟩⟩⟩⟩ <;> simp [numOf, rd] <;> omega
theorem numOf_small {xs : List Int} (hB : Bytes xs) (h1 : lead xs < xs.length) (h2 : ¬ badN xs) : numOf (xs.take (lead xs + 1)) ≤ 18446744073709551615 := by
  unfold badN at h2
  by_cases h9 : lead xs = 9
  · rw [h9, numOf_take10]
    have h3 := numOf_lt (xs.take 9)
    have h4 : (xs.take 9).length ≤ 9 := by simp; omega
    have h5 : (128 : Int) ^ (xs.take 9).length ≤ 128 ^ 9 := by
      have := Nat.pow_le_pow_right (n := 128) (by omega) h4
      exact_mod_cast this
    have h6 := hB.at_ 9
    have h7 : ¬ 1 < rd xs 9 := fun h => h2 (.inr (.inl ⟨h9, h⟩))
    have : rd xs 9 % 128 ≤ 1 := by omega
    omega
  · have h8 : lead xs + 1 ≤ 9 := by omega
    have h3 := numOf_lt (xs.take (lead xs + 1))
    have h4 : (xs.take (lead xs + 1)).length ≤ 9 := by simp; omega
    have h5 : (128 : Int) ^ (xs.take (lead xs + 1)).length ≤ 128 ^ 9 := by
      have := Nat.pow_le_pow_right (n := 128) (by omega) h4
      exact_mod_cast this
    omega

theorem u64_or_add {a z : Int} (h0 : 0 ≤ a) (h1 : a * 128 ≤ 18446744073709551615) (h2 : 0 ≤ z) (h3 : z < 128) : Go.bits .or .u64 (a * 128) z = a * 128 + z := by
  obtain ⟨n, rfl⟩ := Int.eq_ofNat_of_zero_le h0
  obtain ⟨m, rfl⟩ := Int.eq_ofNat_of_zero_le h2
  rw [show ((n : Int) * 128) = ((n * 128 : Nat) : Int) by simp, u64_or_nat _ _ (by omega) (by omega), nat_join 7 _ _ (by omega) (by omega)]
  simp
theorem u8_and127 {z : Int} (h0 : 0 ≤ z) (h1 : z ≤ 255) : Go.bits .and .u8 z 127 = z % 128 := by
  obtain ⟨n, rfl⟩ := Int.eq_ofNat_of_zero_le h0
  rw [show (127 : Int) = ((127 : Nat) : Int) from rfl, u8_and_nat n 127 (by omega) (by omega), nat_mask7]
  simp
theorem numOf_step (xs : List Int) (k j : Nat) (hj : j ≤ k) (hk : k < xs.length) (hs : numOf (xs.take (k + 1)) ≤ 18446744073709551615) :
    numOf ((xs.take (k + 1)).drop (j + 1)) * 128 ≤ 18446744073709551615 ∧
    numOf ((xs.take (k + 1)).drop j) = numOf ((xs.take (k + 1)).drop (j + 1)) * 128 + rd xs (j : Int) % 128 := by
  have hlen : j < (xs.take (k + 1)).length := by simp; omega
  have e : (xs.take (k + 1)).drop j = rd xs (j : Int) :: (xs.take (k + 1)).drop (j + 1) := by
    rw [List.drop_eq_getElem_cons hlen, rd_nat, List.getElem_take, List.getD_eq_getElem?_getD, List.getElem?_eq_getElem (by omega)]; rfl
  refine ⟨?_, by rw [e]; rfl⟩
  have h1 := numOf_drop j (xs.take (k + 1))
  rw [e] at h1
  simp only [numOf] at h1
  have h3 := numOf_nonneg ((xs.take (k + 1)).drop (j + 1))
  have h4 : (1 : Int) ≤ 128 ^ j := by
    have := Nat.pow_pos (n := j) (show 0 < 128 by omega)
    exact_mod_cast this
  have h5 : (numOf ((xs.take (k + 1)).drop (j + 1)) * 128 + rd xs (j : Int) % 128) * 1 ≤ (numOf ((xs.take (k + 1)).drop (j + 1)) * 128 + rd xs (j : Int) % 128) * 128 ^ j := Int.mul_le_mul_of_nonneg_left h4 (by omega)
  omega

/-! ### One way alone -/
theorem lead_put (k : Nat) : ∀ (n : Int) (ys : List Int), 0 ≤ n → n < 128 ^ (k+1) → lead (putN n ++ ys) + 1 = (putN n).length := by
  induction k with
  | zero => intro n ys h0 h; rw [putN_lt (by omega)]; simp [lead]; omega
  | succ k ih =>
    intro n ys h0 h
    by_cases h' : 128 ≤ n
    · rw [putN_ge h']
      have := ih (n / 128) ys (by omega) (by rw [Int.pow_succ] at h; omega)
      simp only [List.cons_append, lead, List.length_cons]
      rw [if_pos (by omega)]; omega
    · rw [putN_lt (by omega)]; simp [lead]; omega
theorem numOf_put (k : Nat) : ∀ (n : Int), 0 ≤ n → n < 128 ^ (k+1) → numOf (putN n) = n := by
  induction k with
  | zero => intro n h0 h; rw [putN_lt (by omega)]; simp [numOf]; omega
  | succ k ih =>
    intro n h0 h
    by_cases h' : 128 ≤ n
    · rw [putN_ge h']
      have := ih (n / 128) (by omega) (by rw [Int.pow_succ] at h; omega)
      simp only [numOf, this]; omega
    · rw [putN_lt (by omega)]; simp [numOf]; omega
/-- The last byte is none of 0, but of 0 itself; of ten it is 1. -/
theorem last_put (k : Nat) : ∀ (n : Int), 0 ≤ n → n < 128 ^ (k+1) → (putN n).length = 1 ∨ 1 ≤ (putN n).getD ((putN n).length - 1) 0 := by
  induction k with
  | zero => intro n h0 h; rw [putN_lt (by omega)]; simp
  | succ k ih =>
    intro n h0 h
    by_cases h' : 128 ≤ n
    · rw [putN_ge h']
      have hp := putN_pos (n / 128)
      right
      have := ih (n / 128) (by omega) (by rw [Int.pow_succ] at h; omega)
      simp only [List.length_cons, Nat.add_sub_cancel]
      obtain ⟨m, hm⟩ : ∃ m, (putN (n/128)).length = m + 1 := ⟨(putN (n/128)).length - 1, by omega⟩
      rw [hm, List.getD_cons_succ]
      rw [hm] at this
      rcases this with h1 | h1
      · obtain rfl : m = 0 := by omega
        by_cases h2 : 128 ≤ n / 128
        · rw [putN_ge h2] at hm ⊢; simp; omega
        · rw [putN_lt (by omega)]; simp; omega
      · simpa using h1
    · rw [putN_lt (by omega)]; simp
theorem putN_top (k : Nat) : ∀ (n : Int), 0 ≤ n → n < 128 ^ (k+1) → (putN n).length = k + 2 - 1 → (putN n).getD k 0 * 128 ^ k ≤ n := by
  induction k with
  | zero => intro n h0 h _; rw [putN_lt (by omega)]; simp
  | succ k ih =>
    intro n h0 h hl
    by_cases h' : 128 ≤ n
    · rw [putN_ge h'] at hl ⊢
      have := ih (n / 128) (by omega) (by rw [Int.pow_succ] at h; omega) (by simp at hl; omega)
      rw [List.getD_cons_succ, Int.pow_succ, ← Int.mul_assoc]
      omega
    · rw [putN_lt (by omega)] at hl; simp at hl
theorem take_put {n : Int} (ys : List Int) (h0 : 0 ≤ n) (h1 : n ≤ 18446744073709551615) : takeN (putN n ++ ys) = (n, ((putN n).length : Int), 0) := by
  have hk : n < 128 ^ (9+1) := by omega
  have hl := lead_put 9 n ys h0 hk
  have hp := putN_pos n
  have hr : ∀ j, j < (putN n).length → (putN n ++ ys).getD j 0 = (putN n).getD j 0 := fun j hj => by
    simp [List.getD_eq_getElem?_getD, List.getElem?_append_left hj]
  unfold takeN
  rw [if_neg (by simp; omega), if_neg, hl, List.take_left, numOf_put 9 n h0 hk]
  · congr 2; omega
  · unfold badN
    have h10 := putN_len10 h1
    rintro (h | ⟨h, h'⟩ | ⟨h, h'⟩)
    · omega
    · rw [show (9 : Int) = ((9 : Nat) : Int) from rfl, rd_nat, hr 9 (by omega)] at h'
      have := putN_top 9 n h0 hk (by omega)
      omega
    · rw [rd_nat, hr _ (by omega)] at h'
      rcases last_put 9 n h0 hk with h2 | h2
      · omega
      · rw [show (putN n).length - 1 = lead (putN n ++ ys) by omega] at h2; omega
theorem put_take_aux : ∀ (xs : List Int), Bytes xs → lead xs < xs.length → (0 < lead xs → rd xs (lead xs : Int) ≠ 0) → putN (numOf (xs.take (lead xs + 1))) = xs.take (lead xs + 1) := by
  intro xs
  induction xs with
  | nil => intro _ h; simp [lead] at h
  | cons b r ih =>
    intro hB h1 h2
    have hb := hB b (by simp)
    by_cases h : 128 ≤ b
    · have hl : lead (b :: r) = lead r + 1 := by simp [lead, h]
      rw [hl] at h1 h2 ⊢
      have h3 : rd r (lead r : Int) ≠ 0 := by
        have := h2 (by omega)
        rw [rd_nat] at this ⊢
        simpa using this
      have := ih (fun x hx => hB x (List.mem_cons_of_mem _ hx)) (by simpa using h1) (fun _ => h3)
      simp only [List.take_succ_cons, numOf]
      have hpos : 1 ≤ numOf (r.take (lead r + 1)) := by
        have h4 := numOf_drop (lead r) (r.take (lead r + 1))
        have h5 : lead r < r.length := by simpa using h1
        rw [List.drop_take, show lead r + 1 - lead r = 1 by omega] at h4
        rw [List.drop_eq_getElem_cons h5] at h4
        simp only [List.take_succ_cons, List.take_zero, numOf] at h4
        have h6 : r[lead r] < 128 := lead_stop h5
        have h7 : r[lead r] ≠ 0 := by
          rw [rd_nat, List.getD_eq_getElem?_getD, List.getElem?_eq_getElem h5] at h3; simpa using h3
        have h8 := hB r[lead r] (List.mem_cons_of_mem _ (List.getElem_mem h5))
        have h9 : (1 : Int) ≤ 128 ^ lead r := by
          have := Nat.pow_pos (n := lead r) (show 0 < 128 by omega)
          exact_mod_cast this
        have h10 : r[lead r] % 128 = r[lead r] := by omega
        rw [h10] at h4
        have h11 : 1 * 1 ≤ (0 * 128 + r[lead r]) * 128 ^ lead r := Int.mul_le_mul (by omega) h9 (by omega) (by omega)
        omega
      rw [putN_ge (by omega)]
      have e1 : (numOf (r.take (lead r + 1)) * 128 + b % 128) / 128 = numOf (r.take (lead r + 1)) := by omega
      have e2 : (numOf (r.take (lead r + 1)) * 128 + b % 128) % 128 + 128 = b := by omega
      rw [e1, e2, this]
    · have hl : lead (b :: r) = 0 := by simp [lead, h]
      rw [hl]
      simp only [Nat.zero_add, List.take_succ_cons, List.take_zero, numOf]
      rw [putN_lt (by omega)]
      congr 1; omega
theorem put_take {xs : List Int} {m k : Int} (hB : Bytes xs) (h : takeN xs = (m, k, 0)) : putN m = xs.take k.toNat ∧ 0 ≤ m ∧ m ≤ 18446744073709551615 ∧ 1 ≤ k ∧ k ≤ xs.length := by
  unfold takeN at h
  split at h
  · cases h
  · rename_i h1
    have hle := lead_le xs
    split at h
    · cases h
    · rename_i h2
      injection h with h3 h4
      injection h4 with h4 _
      subst h3 h4
      have h5 := put_take_aux xs hB (by omega) (fun hp he => h2 (.inr (.inr ⟨hp, he⟩)))
      refine ⟨?_, numOf_nonneg _, numOf_small hB (by omega) h2, by omega, by omega⟩
      rw [h5]; congr 1
/-- Cut off it is short. -/
theorem take_cut {n : Int} (h0 : 0 ≤ n) (h1 : n ≤ 18446744073709551615) (j : Nat) (hj : j < (putN n).length) : takeN ((putN n).take j) = (0, 0, 3) := by
  have key : ∀ (k : Nat) (n : Int), n < 128 ^ (k+1) → ∀ j, j < (putN n).length → lead ((putN n).take j) = ((putN n).take j).length := by
    intro k
    induction k with
    | zero =>
      intro n h j hj
      rw [putN_lt (by omega)] at hj ⊢
      have e : j = 0 := by simpa using hj
      rw [e]; rfl
    | succ k ih =>
      intro n h j hj
      by_cases h' : 128 ≤ n
      · rw [putN_ge h'] at hj ⊢
        cases j with
        | zero => rfl
        | succ j =>
          have := ih (n / 128) (by rw [Int.pow_succ] at h; omega) j (by simpa using hj)
          simp only [List.take_succ_cons, lead, List.length_cons]
          rw [if_pos (by omega), this]
      · rw [putN_lt (by omega)] at hj ⊢
        have e : j = 0 := by simpa using hj
        rw [e]; rfl
  unfold takeN
  rw [if_pos (key 9 n (by omega) j hj)]

/-! ### With a sign -/
def zig (n : Int) : Int := if 0 ≤ n then 2 * n else -2 * n - 1
def zag (u : Int) : Int := if u % 2 = 1 then -(u / 2) - 1 else u / 2
theorem zag_zig (n : Int) : zag (zig n) = n := by unfold zig zag; split <;> split <;> omega
theorem zig_range {n : Int} (h0 : -9223372036854775808 ≤ n) (h1 : n ≤ 9223372036854775807) : 0 ≤ zig n ∧ zig n ≤ 18446744073709551615 := by unfold zig; split <;> omega
theorem u64_xor_zero {a : Int} (h0 : 0 ≤ a) (h1 : a ≤ 18446744073709551615) : Go.bits .xor .u64 a 0 = a := by
  obtain ⟨n, rfl⟩ := Int.eq_ofNat_of_zero_le h0
  rw [show (0 : Int) = ((0 : Nat) : Int) from rfl, u64_xor_nat n 0 (by omega) (by omega)]; simp
theorem nat_xor_all (n : Nat) (h : n < 18446744073709551616) : n ^^^ 18446744073709551615 = 18446744073709551615 - n := by
  have h1 : (BitVec.ofNat 64 n ^^^ BitVec.allOnes 64).toNat = (~~~ (BitVec.ofNat 64 n)).toNat := by rw [BitVec.xor_allOnes]
  rw [BitVec.toNat_xor, BitVec.toNat_allOnes, BitVec.toNat_not, BitVec.toNat_ofNat] at h1
  have h2 : n % 2 ^ 64 = n := Nat.mod_eq_of_lt (by omega)
  rw [h2] at h1
  have h3 : (2 : Nat) ^ 64 - 1 = 18446744073709551615 := by decide
  rw [h3] at h1
  omega
theorem zig_bits {x : Int} (h0 : -9223372036854775808 ≤ x) (h1 : x ≤ 9223372036854775807) :
    Go.bits .xor .u64 (IntKind.u64.wrap (IntKind.u64.wrap x * 2)) (IntKind.u64.wrap (x / 9223372036854775808)) = zig x := by
  simp only [IntKind.wrap_u64]
  unfold zig
  by_cases h : 0 ≤ x
  · rw [if_pos h, show x / 9223372036854775808 = 0 by omega, show x % 18446744073709551616 * 2 % 18446744073709551616 = 2 * x by omega]
    exact u64_xor_zero (by omega) (by omega)
  · rw [if_neg h, show x / 9223372036854775808 % 18446744073709551616 = 18446744073709551615 by omega]
    obtain ⟨n, hn⟩ := Int.eq_ofNat_of_zero_le (show 0 ≤ x % 18446744073709551616 * 2 % 18446744073709551616 by omega)
    rw [hn, show (18446744073709551615 : Int) = ((18446744073709551615 : Nat) : Int) from rfl, u64_xor_nat _ _ (by omega) (by omega), nat_xor_all n (by omega)]
    omega
theorem u64_and1 {u : Int} (h0 : 0 ≤ u) (h1 : u ≤ 18446744073709551615) : Go.bits .and .u64 u 1 = u % 2 := by
  obtain ⟨n, rfl⟩ := Int.eq_ofNat_of_zero_le h0
  rw [show (1 : Int) = ((1 : Nat) : Int) from rfl, u64_and_nat n 1 (by omega) (by omega), nat_mask1]; simp
theorem i64_bv {a : Int} (h0 : 0 ≤ a) (h1 : a ≤ 9223372036854775807) : (BitVec.ofInt 64 a).toNat = a.toNat := by
  rw [BitVec.toNat_ofInt]; simp; omega
theorem i64_xor_zero {a : Int} (h0 : 0 ≤ a) (h1 : a ≤ 9223372036854775807) : Go.bits .xor .i64 a 0 = a := by
  show IntKind.i64.wrap (((BitVec.ofInt 64 a ^^^ BitVec.ofInt 64 0).toNat : Nat) : Int) = a
  rw [show BitVec.ofInt 64 0 = 0#64 from rfl, BitVec.xor_zero, i64_bv h0 h1, IntKind.wrap_i64]
  omega
theorem i64_xor_neg {a : Int} (h0 : 0 ≤ a) (h1 : a ≤ 9223372036854775807) : Go.bits .xor .i64 a (-1) = -a - 1 := by
  show IntKind.i64.wrap (((BitVec.ofInt 64 a ^^^ BitVec.ofInt 64 (-1)).toNat : Nat) : Int) = -a - 1
  rw [show BitVec.ofInt 64 (-1) = BitVec.allOnes 64 by decide, BitVec.xor_allOnes, BitVec.toNat_not, i64_bv h0 h1, IntKind.wrap_i64]
  omega
theorem u64_and127 {u : Int} (h0 : 0 ≤ u) (h1 : u ≤ 18446744073709551615) : Go.bits .and .u64 u 127 = u % 128 := by
  obtain ⟨n, rfl⟩ := Int.eq_ofNat_of_zero_le h0
  rw [show (127 : Int) = ((127 : Nat) : Int) from rfl, u64_and_nat n 127 (by omega) (by omega), nat_mask7]; simp
theorem zig_or {x : Int} (h0 : -9223372036854775808 ≤ x) (h1 : x < 0) : Go.bits .or .u64 (-(x + 1) * 2) 1 = -2 * x - 1 := by
  obtain ⟨n, hn⟩ := Int.eq_ofNat_of_zero_le (show 0 ≤ -(x + 1) by omega)
  rw [hn, show ((n : Int) * 2) = ((n * 2 : Nat) : Int) by simp, show (1 : Int) = ((1 : Nat) : Int) from rfl, u64_or_nat _ _ (by omega) (by omega), nat_join 1 _ _ (by omega) (by omega)]
  omega
theorem zag_bits {u : Int} (h0 : 0 ≤ u) (h1 : u ≤ 18446744073709551615) :
    Go.bits .xor .i64 (wrap64 (u / 2)) (wrap64 (-wrap64 (Go.bits .and .u64 u 1))) = zag u := by
  rw [u64_and1 h0 h1]
  have e1 : wrap64 (u / 2) = u / 2 := by unfold wrap64; omega
  have e2 : wrap64 (-wrap64 (u % 2)) = -(u % 2) := by unfold wrap64; omega
  rw [e1, e2]
  unfold zag
  split
  · rename_i h; rw [h]; exact i64_xor_neg (by omega) (by omega)
  · rw [show u % 2 = 0 by omega]; exact i64_xor_zero (by omega) (by omega)
theorem takeN_cases {xs : List Int} (hB : Bytes xs) : takeN xs = (0, 0, 3) ∨ takeN xs = (0, 0, 4) ∨ ∃ m k : Nat, takeN xs = ((m : Int), (k : Int), 0) ∧ m ≤ 18446744073709551615 ∧ 1 ≤ k ∧ k ≤ xs.length := by
  have hle := lead_le xs
  by_cases h : lead xs = xs.length
  · exact .inl (takeN_short h)
  · by_cases hb : badN xs
    · exact .inr (.inl (takeN_bad h hb))
    · refine .inr (.inr ⟨(numOf (xs.take (lead xs + 1))).toNat, lead xs + 1, ?_, ?_, by omega, by omega⟩)
      · rw [takeN_ok h hb]
        have := numOf_nonneg (xs.take (lead xs + 1))
        congr 1
        · omega
      · have := numOf_small hB (by omega) hb; omega
/-- Bytes with their length. -/
def takeB (xs : List Int) (most : Int) : List Int × Int × Int :=
  let t := takeN xs
  if t.2.2 ≠ 0 then ([], 0, t.2.2) else if most < 0 ∨ most < t.1 then ([], 0, 2) else if (xs.length : Int) - t.2.1 < t.1 then ([], 0, 3) else ((xs.drop t.2.1.toNat).take t.1.toNat, t.2.1 + t.1, 0)
theorem takeB_err {xs : List Int} {most e : Int} (h : takeN xs = (0, 0, e)) (he : e ≠ 0) : takeB xs most = ([], 0, e) := by unfold takeB; rw [h]; simp [he]
theorem takeB_long {xs : List Int} {most : Int} {m k : Nat} (h : takeN xs = ((m : Int), (k : Int), 0)) (hm : most < 0 ∨ most < m) : takeB xs most = ([], 0, 2) := by unfold takeB; rw [h]; simp [hm]
theorem takeB_short {xs : List Int} {most : Int} {m k : Nat} (h : takeN xs = ((m : Int), (k : Int), 0)) (hm : ¬ (most < 0 ∨ most < m)) (hs : (xs.length : Int) - k < m) : takeB xs most = ([], 0, 3) := by unfold takeB; rw [h]; simp only [ne_eq, not_true_eq_false, if_false, if_neg hm, if_pos hs]
theorem takeB_ok {xs : List Int} {most : Int} {m k : Nat} (h : takeN xs = ((m : Int), (k : Int), 0)) (hm : ¬ (most < 0 ∨ most < m)) (hs : ¬ (xs.length : Int) - k < m) : takeB xs most = ((xs.drop k).take m, (k : Int) + m, 0) := by unfold takeB; rw [h]; simp only [ne_eq, not_true_eq_false, if_false, if_neg hm, if_neg hs, Int.toNat_natCast]
theorem takeB_used {xs : List Int} {most : Int} (hB : Bytes xs) : 0 ≤ (takeB xs most).2.1 ∧ (takeB xs most).2.1 ≤ xs.length ∧ ((takeB xs most).2.2 = 0 → 1 ≤ (takeB xs most).2.1) ∧ ((takeB xs most).2.2 ≠ 0 → (takeB xs most).1 = []) := by
  rcases takeN_cases hB with h | h | ⟨m, k, h, hm, h1, h2⟩
  · rw [takeB_err h (by decide)]; simp
  · rw [takeB_err h (by decide)]; simp
  · by_cases hl : most < 0 ∨ most < m
    · rw [takeB_long h hl]; simp
    · by_cases hs : (xs.length : Int) - k < m
      · rw [takeB_short h hl hs]; simp
      · rw [takeB_ok h hl hs]; simp; omega
theorem takeN_range {xs : List Int} (hB : Bytes xs) : 0 ≤ (takeN xs).1 ∧ (takeN xs).1 ≤ 18446744073709551615 := by
  have hle := lead_le xs
  by_cases h : lead xs = xs.length
  · rw [takeN_short h]; simp
  · by_cases hb : badN xs
    · rw [takeN_bad h hb]; simp
    · rw [takeN_ok h hb]; exact ⟨numOf_nonneg _, numOf_small hB (by omega) hb⟩
end Go.Proofs.Ytcgmfbefikpkbaa
