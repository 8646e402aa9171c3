/-
  Merged: LiP, TwoB, TmX, CntW, RSz, NeqB, SeR, SeW, TPuR.
-/
import Derived.Test.YtdboloabpjmgaaaMPuts3
/-! LiP -/
namespace Go.Proofs.Ytdboloabpjmgaaa
open Go.RowKit Go.Proofs.YtdboloabpjmgaaaW.PrintWords Go.RegionInvYtdboloabpjmgaaa

theorem lf_var (n : Int) : LfOk (varT n) := ⟨fun h => absurd (show (1 : Int) = 2 from h) (by decide), fun h => absurd (show (1 : Int) = 7 from h) (by decide)⟩
theorem leafT_var (n : Int) : leafT (varT n) = true := leafT_of (nK_var n)
theorem lf_lift {fr by_ : Int} {x : Tm} {e : Int} (h : LfOk x) : LfOk (liftF fr by_ x e) := by
  by_cases k : x.kind = 1
  · rw [liftF_var k]; exact lf_var _
  · rw [liftF_no k]; exact lf_node h
theorem leaf_lift (fr by_ : Int) (x : Tm) (e : Int) : nK (liftF fr by_ x e) = 0 := by
  by_cases k : x.kind = 1
  · rw [liftF_var k]; rfl
  · rw [liftF_no k]; exact nK_nodeP x
theorem sameT_eq {t u : Tm} (ho : okT t) (h : AllL (fun x _ => LfOk x) t 0) (hu : u = t) : SameT t u = true := by
  unfold SameT
  rw [hu, decide_eq_true ho, same_self h]
  rfl
theorem liftN_ge {fr by_ n b : Int} (h : ¬ (n < b ∨ n - b < fr)) (h0 : 0 ≤ by_) (hs : n + by_ ≤ 9223372036854775807) : liftN fr by_ n b = n + by_ := by
  by_cases hp : 0 < by_
  · rw [liftN_up h hp]; omega
  · rw [liftN_dn h hp]; omega
theorem hit_kind {x : Tm} {e : Int} (h : hitB x e = true) : x.kind = 1 ∧ x.num = e := of_decide_eq_true h
theorem leaf_inst {v x : Tm} {e : Int} (h : hitB x e = false) : nK (instF v x e) = 0 := by
  unfold instF
  rw [if_neg (by rw [h]; decide)]
  split
  · rfl
  · exact nK_nodeP x
theorem size_lift (fr by_ : Int) (t : Tm) (b : Int) : sizeT (rebP (liftF fr by_) t b) = sizeT t := by
  have h1 := reb_size (F := liftF fr by_) (k := 0) (t := t) (b := b) (all_of _ _ (fun x e hl => by rw [size_leaf (leaf_lift fr by_ x e)]; omega) t (Nat.lt_succ_self _) b)
  omega
theorem depth_lift (fr by_ : Int) (t : Tm) (b : Int) : depthT (rebP (liftF fr by_) t b) ≤ depthT t := by
  have h1 := reb_depth (F := liftF fr by_) (k := 0) (t := t) (b := b) (all_of _ _ (fun x e hl => by rw [depth_leaf (leaf_lift fr by_ x e)]; omega) t (Nat.lt_succ_self _) b)
  omega
theorem inst_size (v t : Tm) (b : Int) : sizeT (rebP (instF v) t b) = sizeT t + (sizeT v - 1) * occT t b :=
  reb_size (all_of _ _ (fun x e hl => by
    cases hh : hitB x e with
    | true =>
      have hk := hit_kind hh
      rw [instF_hit hk.1 hk.2, if_pos rfl]
      show sizeT (rebP (liftF 0 e) v 0) = _
      rw [size_lift]
      have := size_pos v
      omega
    | false => rw [size_leaf (leaf_inst hh), if_neg (by decide)]; omega) t (Nat.lt_succ_self _) b)
theorem inst_depth (v t : Tm) (b : Int) : depthT (rebP (instF v) t b) ≤ depthT t + (depthT v - 1) :=
  reb_depth (all_of _ _ (fun x e hl => by
    have hp := depth_pos v
    cases hh : hitB x e with
    | true =>
      have hk := hit_kind hh
      rw [instF_hit hk.1 hk.2]
      have := depth_lift 0 e v 0
      show depthT (rebP (liftF 0 e) v 0) ≤ _
      omega
    | false => rw [depth_leaf (leaf_inst hh)]; omega) t (Nat.lt_succ_self _) b)
theorem occ_le (N : Nat) : ∀ (t : Tm), SizeOf.sizeOf t < N → ∀ b, occT t b ≤ sizeT t := by
  induction N with
  | zero => intro t h; omega
  | succ N ih =>
    intro t hN b
    have key : ∀ (xs : List (Fin (nK t))), occK t b xs ≤ sumK t xs := by
      intro xs
      induction xs with
      | nil => exact Nat.le_refl _
      | cons x r ihr =>
        have e1 : sumK t (x :: r) = sizeT (kidF t x) + sumK t r := by unfold sumK; rw [List.map_cons, List.sum_cons]
        have e2 : occK t b (x :: r) = occT (kidF t x) (b + moreZ t x) + occK t b r := by unfold occK; rw [List.map_cons, List.sum_cons]
        have := ih (kidF t x) (by have := kidF_lt t x; omega) (b + moreZ t x)
        omega
    rw [occ_eq, size_eq]
    have := key (List.finRange (nK t))
    split <;> omega
theorem inst_tree {t v : Tm} (ht : okT t) (hv : okT v) (h : okT (rebP (instF v) t 0)) : InstT t v = rebP (instF v) t 0 := by
  have h1 := inst_size v t 0
  have h2 := h.1
  have hp := size_pos v
  rw [InstT_ok ht hv, fitT_ok h]
  unfold instS
  rw [h1] at h2
  rw [Int.mul_comm]
  have : ((sizeT v : Int) - 1) * (occT t 0 : Int) = (((sizeT v - 1) * occT t 0 : Nat) : Int) := by
    rw [Int.natCast_mul, Int.natCast_sub hp]; rfl
  omega
theorem lf_inst {v x : Tm} {e : Int} (h : LfOk x) (hv : ∀ b, AllL (fun x _ => LfOk x) v b) : AllL (fun x _ => LfOk x) (instF v x e) e := by
  cases hh : hitB x e with
  | true =>
    have hk := hit_kind hh
    rw [instF_hit hk.1 hk.2]
    have := AllL.reb (P := fun x _ => LfOk x) (F := liftF 0 e) (k := e) (t := v) (b := 0) ((hv 0).mono fun x f _ h => .leaf (leafT_of (leaf_lift 0 e x f)) (lf_lift h))
    rwa [Int.zero_add] at this
  | false =>
    refine .leaf (leafT_of (leaf_inst hh)) ?_
    unfold instF
    rw [if_neg (by rw [hh]; decide)]
    split
    · exact lf_var _
    · exact lf_node h
theorem all_inst {v t : Tm} {b : Int} (h : AllL (fun x _ => LfOk x) t b) (hv : ∀ b, AllL (fun x _ => LfOk x) v b) : AllL (fun x _ => LfOk x) (rebP (instF v) t b) b := by
  have := AllL.reb (P := fun x _ => LfOk x) (F := instF v) (k := 0) (t := t) (b := b) (h.mono fun x e _ h => by rw [Int.add_zero]; exact lf_inst h hv)
  rwa [Int.add_zero] at this
theorem lift_inst {u v : Tm} (hu : Whole u) (hv : Whole v) {d : Int} (hd : 0 ≤ d ∧ d ≤ 1000000) : rebP (instF v) (liftT 0 d u) d = rebP (liftF 0 d) (rebP (instF v) u 0) 0 := by
  show rebP (instF v) (rebP (liftF 0 d) u 0) d = _
  rw [reb_reb (liftF 0 d) (instF v) d _ u (Nat.lt_succ_self _) 0 d (by omega), reb2]
  refine reb_congr ((((hu.num 0).both (hu.lf 0)).both (all_depth _ u (Nat.lt_succ_self _) 0)).mono fun x e _ h => ?_)
  have he := h.2
  have hdu := hu.depth
  rw [reb_leaf (leafT_of (leaf_lift 0 d x e))]
  by_cases k : x.kind = 1
  · have hk := h.1.1 k
    rw [liftF_var k]
    by_cases hlo : x.num < e
    · rw [liftN_lo (.inl hlo), instF_near (show (varT x.num).num < e + d by show x.num < e + d; omega), instF_near hlo, reb_leaf (leafT_of (nK_nodeP x)), nodeP_var k, nodeP_var (show (varT x.num).kind = 1 from rfl), liftF_var (show (varT x.num).kind = 1 from rfl), liftN_lo (.inl (show (varT x.num).num < e from hlo))]
    · have e1 : liftN 0 d x.num e = x.num + d := liftN_ge (by omega) hd.1 (by omega)
      rw [e1]
      by_cases heq : x.num = e
      · rw [instF_hit k heq, instF_hit (show (varT (x.num + d)).kind = 1 from rfl) (show x.num + d = e + d by omega)]
        show rebP (liftF 0 (e + d)) v 0 = rebP (liftF 0 d) (rebP (liftF 0 e) v 0) e
        rw [reb_reb (liftF 0 e) (liftF 0 d) e _ v (Nat.lt_succ_self _) 0 e (by omega)]
        refine reb_congr ((((hv.num 0).both (hv.lf 0)).both (all_depth _ v (Nat.lt_succ_self _) 0)).mono fun y f _ hy => ?_)
        have hf := hy.2
        have hdv := hv.depth
        rw [reb_leaf (leafT_of (leaf_lift 0 e y f))]
        by_cases ky : y.kind = 1
        · have hky := hy.1.1 ky
          rw [liftF_var ky, liftF_var ky, liftF_var (show (varT _).kind = 1 from rfl)]
          congr 1
          show liftN 0 (e + d) y.num f = liftN 0 d (liftN 0 e y.num f) (f + e)
          by_cases hlf : y.num < f
          · rw [liftN_lo (.inl hlf), liftN_lo (.inl hlf), liftN_lo (.inl (by omega))]
          · rw [liftN_ge (fr := 0) (by omega) (by omega) (by omega), liftN_ge (fr := 0) (n := y.num) (by_ := e) (by omega) (by omega) (by omega), liftN_ge (by omega) hd.1 (by omega)]
            omega
        · rw [liftF_no ky, liftF_no ky, liftF_no (show (nodeP y).kind ≠ 1 from ky), node_node hy.1.2]
      · rw [instF_far k (by omega), instF_far (show (varT (x.num + d)).kind = 1 from rfl) (show e + d < x.num + d by omega), reb_leaf (leafT_var _), liftF_var (show (varT _).kind = 1 from rfl)]
        congr 1
        show x.num + d - 1 = liftN 0 d (x.num - 1) e
        rw [liftN_ge (by omega) hd.1 (by omega)]
        omega
  · rw [liftF_no k, instF_no (show (nodeP x).kind ≠ 1 from k), instF_no k, reb_leaf (leafT_of (nK_nodeP x)), liftF_no (show (nodeP x).kind ≠ 1 from k)]
theorem inst_lift {u v : Tm} (hv : Whole v) {d : Int} (hd : 0 ≤ d ∧ d ≤ 1000000) : rebP (instF u) (liftT 0 (d + 1) v) d = liftT 0 d v := by
  show rebP (instF u) (rebP (liftF 0 (d + 1)) v 0) d = rebP (liftF 0 d) v 0
  rw [reb_reb (liftF 0 (d + 1)) (instF u) d _ v (Nat.lt_succ_self _) 0 d (by omega)]
  refine reb_congr ((((hv.num 0).both (hv.lf 0)).both (all_depth _ v (Nat.lt_succ_self _) 0)).mono fun y f _ hy => ?_)
  have hf := hy.2
  have hdv := hv.depth
  rw [reb_leaf (leafT_of (leaf_lift 0 (d + 1) y f))]
  by_cases ky : y.kind = 1
  · have hky := hy.1.1 ky
    rw [liftF_var ky, liftF_var ky]
    by_cases hlf : y.num < f
    · rw [liftN_lo (.inl hlf), liftN_lo (.inl hlf), instF_near (show (varT y.num).num < f + d by show y.num < f + d; omega), nodeP_var (show (varT y.num).kind = 1 from rfl)]
      rfl
    · rw [liftN_ge (fr := 0) (by omega) (by omega) (by omega), liftN_ge (fr := 0) (by_ := d) (by omega) hd.1 (by omega), instF_far (show (varT _).kind = 1 from rfl) (show f + d < y.num + (d + 1) by omega)]
      congr 1
      show y.num + (d + 1) - 1 = _
      omega
  · rw [liftF_no ky, liftF_no ky, instF_no (show (nodeP y).kind ≠ 1 from ky), node_node hy.1.2]
theorem puts_tree {t u v : Tm} (ht : Whole t) (hu : Whole u) (hv : Whole v) {u' : Tm} (hu' : u' = rebP (instF v) u 0) :
    rebP (instF u') (rebP (instF v) (canT t 0) 1) 0 = rebP (instF v) (rebP (instF u) t 0) 0 := by
  have e0 : rebP (instF v) (canT t 0) 1 = rebP (fun x e => instF v (nodeP x) (e + 1)) t 0 := by
    rw [reb_reb (fun t _ => nodeP t) (instF v) 1 _ t (Nat.lt_succ_self _) 0 1 (by decide)]
    exact reb_congr (all_of _ _ (fun x e _ => reb_leaf (leafT_of (nK_nodeP x))) t (Nat.lt_succ_self _) 0)
  rw [e0, reb2, reb2]
  refine reb_congr ((((ht.num 0).both (ht.lf 0)).both (all_depth _ t (Nat.lt_succ_self _) 0)).mono fun x e _ h => ?_)
  have he := h.2
  have hdt := ht.depth
  by_cases k : x.kind = 1
  · have hk := h.1.1 k
    rw [nodeP_var k]
    by_cases h1 : x.num < e
    · rw [instF_near (show (varT x.num).num < e + 1 by show x.num < e + 1; omega), instF_near h1, nodeP_var k, nodeP_var (show (varT x.num).kind = 1 from rfl)]
      show rebP (instF u') (varT x.num) e = rebP (instF v) (varT x.num) e
      rw [reb_leaf (leafT_var _), reb_leaf (leafT_var _), instF_near (show (varT x.num).num < e from h1), instF_near (show (varT x.num).num < e from h1)]
    · by_cases h2 : x.num = e
      · rw [instF_near (show (varT x.num).num < e + 1 by show x.num < e + 1; omega), instF_hit k h2, nodeP_var (show (varT x.num).kind = 1 from rfl)]
        show rebP (instF u') (varT x.num) e = _
        rw [reb_leaf (leafT_var _), instF_hit (show (varT x.num).kind = 1 from rfl) (show x.num = e from h2), lift_inst hu hv (by omega), hu']
        rfl
      · by_cases h3 : x.num = e + 1
        · rw [instF_hit (show (varT x.num).kind = 1 from rfl) (show x.num = e + 1 from h3), instF_far k (by omega), inst_lift hv (by omega), reb_leaf (leafT_var _), instF_hit (show (varT (x.num - 1)).kind = 1 from rfl) (show x.num - 1 = e by omega)]
        · rw [instF_far (show (varT x.num).kind = 1 from rfl) (show e + 1 < x.num by omega), instF_far k (by omega)]
          show rebP (instF u') (varT (x.num - 1)) e = rebP (instF v) (varT (x.num - 1)) e
          rw [reb_leaf (leafT_var _), reb_leaf (leafT_var _), instF_far (show (varT (x.num - 1)).kind = 1 from rfl) (show e < x.num - 1 by omega), instF_far (show (varT (x.num - 1)).kind = 1 from rfl) (show e < x.num - 1 by omega)]
  · rw [instF_no (show (nodeP x).kind ≠ 1 from k), instF_no k, reb_leaf (leafT_of (nK_nodeP _)), reb_leaf (leafT_of (nK_nodeP _)), instF_no (show (nodeP (nodeP x)).kind ≠ 1 from k), instF_no (show (nodeP x).kind ≠ 1 from k), node_node (lf_node h.1.2)]
theorem inst_bound (v t : Tm) (b : Int) : sizeT (rebP (instF v) t b) ≤ sizeT t * sizeT v := by
  rw [inst_size]
  have h1 := occ_le _ t (Nat.lt_succ_self _) b
  have hp := size_pos v
  obtain ⟨k, hk⟩ : ∃ k, sizeT v = k + 1 := ⟨sizeT v - 1, by omega⟩
  rw [hk, Nat.add_sub_cancel, Nat.mul_add, Nat.mul_one, Nat.mul_comm k]
  have := Nat.mul_le_mul_right k h1
  omega
structure PutsOk (t u v : Tm) : Prop where
  a1 : InstT t u = rebP (instF u) t 0
  a2 : InstT (InstT t u) v = rebP (instF v) (rebP (instF u) t 0) 0
  un : InstT (madeT 4 [aC 100, t]) v = .mk 4 0 noName lv0 [] [aC 100, rebP (instF v) (canT t 0) 1]
  b1 : InstT u v = rebP (instF v) u 0
  b2 : InstT (rebP (instF v) (canT t 0) 1) (InstT u v) = rebP (instF v) (rebP (instF u) t 0) 0
  ok : okT (rebP (instF v) (rebP (instF u) t 0) 0)
  same : SameT (InstT (InstT t u) v) (InstT (rebP (instF v) (canT t 0) 1) (InstT u v)) = true
theorem can_size (t : Tm) (b : Int) : sizeT (canT t b) = sizeT t := (own_keeps _ t (Nat.lt_succ_self _) b).1
theorem can_depth (t : Tm) (b : Int) : depthT (canT t b) = depthT t := (own_keeps _ t (Nat.lt_succ_self _) b).2.1
theorem puts_ok {t u v : Tm} (ht : Whole t) (hu : Whole u) (hv : Whole v) (h1 : sizeT t * sizeT u ≤ 15000) (h2 : sizeT t * sizeT u * sizeT v ≤ 15000) : PutsOk t u v := by
  have pt := size_pos t
  have pu := size_pos u
  have dt := ht.depth
  have du := hu.depth
  have dv := hv.depth
  have pv := depth_pos v
  obtain ⟨A, hA⟩ : ∃ A, A = rebP (instF u) t 0 := ⟨_, rfl⟩
  obtain ⟨B, hB⟩ : ∃ B, B = rebP (instF v) A 0 := ⟨_, rfl⟩
  obtain ⟨U, hU⟩ : ∃ U, U = rebP (instF v) u 0 := ⟨_, rfl⟩
  obtain ⟨K, hK⟩ : ∃ K, K = rebP (instF v) (canT t 0) 1 := ⟨_, rfl⟩
  have sA : sizeT A ≤ sizeT t * sizeT u := by rw [hA]; exact inst_bound u t 0
  have dA : depthT A ≤ depthT t + (depthT u - 1) := by rw [hA]; exact inst_depth u t 0
  have okA : okT A := ⟨by omega, by omega⟩
  have sB : sizeT B ≤ sizeT t * sizeT u * sizeT v := by rw [hB]; exact Nat.le_trans (inst_bound v A 0) (Nat.mul_le_mul_right _ sA)
  have dB : depthT B ≤ depthT A + (depthT v - 1) := by rw [hB]; exact inst_depth v A 0
  have okB : okT B := ⟨by omega, by omega⟩
  have sU : sizeT U ≤ sizeT u * sizeT v := by rw [hU]; exact inst_bound v u 0
  have dU : depthT U ≤ depthT u + (depthT v - 1) := by rw [hU]; exact inst_depth v u 0
  have eU : sizeT u * sizeT v ≤ sizeT t * sizeT u * sizeT v := Nat.mul_le_mul_right _ (Nat.le_mul_of_pos_left _ pt)
  have okU : okT U := ⟨by omega, by omega⟩
  have sK : sizeT K ≤ sizeT t * sizeT v := by rw [hK]; exact Nat.le_trans (inst_bound v _ 1) (by rw [can_size]; exact Nat.le_refl _)
  have dK : depthT K ≤ depthT t + (depthT v - 1) := by rw [hK, ← can_depth t 0]; exact inst_depth v _ 1
  have eK : sizeT t * sizeT v ≤ sizeT t * sizeT u * sizeT v := Nat.mul_le_mul_right _ (Nat.le_mul_of_pos_right _ pu)
  have okK : okT K := ⟨by omega, by omega⟩
  have tree : rebP (instF U) K 0 = B := by rw [hK, hB, hA]; exact puts_tree ht hu hv hU
  have a1 : InstT t u = A := by rw [hA]; exact inst_tree ht.ok hu.ok (by rw [← hA]; exact okA)
  have a2 : InstT (InstT t u) v = B := by rw [a1, hB]; exact inst_tree okA hv.ok (by rw [← hB]; exact okB)
  have b1 : InstT u v = U := by rw [hU]; exact inst_tree hu.ok hv.ok (by rw [← hU]; exact okU)
  have b2 : InstT K (InstT u v) = B := by rw [b1, inst_tree okK okU (by rw [tree]; exact okB), tree]
  have eL : madeT 4 [aC 100, t] = .mk 4 0 noName lv0 [] [aC 100, canT t 0] := by
    unfold madeT
    rw [List.map_cons, List.map_cons, List.map_nil, own_aC, ownT_ok ht.ok]
  have eR : rebP (instF v) (.mk 4 0 noName lv0 [] [aC 100, canT t 0]) 0 = .mk 4 0 noName lv0 [] [aC 100, K] := by
    rw [reb_lam, hK, reb_leaf (leafT_of (nK_aC 100)), instF_no (show ¬ (aC 100).kind = 1 from fun h => absurd (show (7 : Int) = 1 from h) (by decide))]
    rfl
  have okL : okT (.mk 4 0 noName lv0 [] [aC 100, canT t 0]) := by
    refine ⟨?_, ?_⟩
    · rw [size_lam, size_leaf (nK_aC 100), can_size]; have := ht.size; omega
    · rw [depth_lam, depth_leaf (nK_aC 100), can_depth]; omega
  have okR : okT (.mk 4 0 noName lv0 [] [aC 100, K]) := by
    refine ⟨?_, ?_⟩
    · rw [size_lam, size_leaf (nK_aC 100)]; omega
    · rw [depth_lam, depth_leaf (nK_aC 100)]; omega
  refine ⟨by rw [a1, hA], by rw [a2, hB, hA], ?_, by rw [b1, hU], ?_, ?_, ?_⟩
  · rw [eL, inst_tree okL hv.ok (by rw [eR]; exact okR), eR, hK]
  · rw [← hK, b2, hB, hA]
  · rw [← hA, ← hB]; exact okB
  · rw [a2, ← hK, b2]
    exact sameT_eq okB (by rw [hB, hA]; exact all_inst (all_inst (ht.lf 0) hu.lf) hv.lf) rfl
end Go.Proofs.Ytdboloabpjmgaaa

/-! TwoB -/
namespace Go.Proofs.Ytdboloabpjmgaaa
open Go.RowKit Go.Proofs.YtdboloabpjmgaaaW.PrintWords Go.RegionInvYtdboloabpjmgaaa Go.RegionEYtdboloabpjmgaaa

structure TwoB (w W : World) (pa pb : Pl) (a b : Tm) : Prop where
  ba : W.heap[w.heap.size]? = some (tmO pa a)
  bb : W.heap[w.heap.size + 1]? = some (tmO pb b)
  bel : Below w.heap.size w W
  ia : TmIn W w.heap.size pa a
  ib : TmIn W w.heap.size pb b
theorem TwoB.later {w W W' : World} {pa pb : Pl} {a b : Tm} (h : TwoB w W pa pb a b) (hb : Below W.heap.size W W') : TwoB w W' pa pb a b :=
  ⟨(hb.block _ (blk_lt h.ba)).trans h.ba, (hb.block _ (blk_lt h.bb)).trans h.bb, below_then h.bel h.bel.size hb, h.ia.stay (hb.mono h.bel.size), h.ib.stay (hb.mono h.bel.size)⟩
structure BoxT (W : World) (g : Nat) (q : Pl) (t : Tm) : Prop where
  x : W.heap[g]? = some (tmO q t)
  i : TmIn W W.heap.size q t
theorem BoxT.later {W W' : World} {g : Nat} {q : Pl} {t : Tm} (h : BoxT W g q t) (hb : Below W.heap.size W W') : BoxT W' g q t := ⟨(hb.block _ (blk_lt h.x)).trans h.x, TmS.all (TmS.later h.i hb)⟩
end Go.Proofs.Ytdboloabpjmgaaa

/-! TmX -/
namespace Go.Proofs.Ytdboloabpjmgaaa
open Go.RowKit Go.Proofs.YtdboloabpjmgaaaW.PrintWords Go.RegionInvYtdboloabpjmgaaa Go.RegionEYtdboloabpjmgaaa

def TmBox (p : Nat) (T : Nat → Prop) (t : Tm) (w : World) (O : Nat → Prop) : Prop := ∃ q, w.heap[p]? = some (tmO q t) ∧ O p ∧ TmS w (fun k => T k ∨ (O k ∧ k ≠ p)) q t
theorem stableE_tmbox {w0 : World} {E : Nat → Nat → Prop} {T : Nat → Prop} {t : Tm} {p : Nat} (hT : ∀ k, T k → Fix w0 E k) : StableE w0 E (fun _ w O => TmBox p T t w O) := by
  rintro v w w' O ⟨q, hb, hO, h⟩ hz hk
  exact ⟨q, (hk p (blk_lt hb) (.inr hO)).trans hb, hO, h.same fun k hk' hz' => hk k hz' (hk'.imp (hT k) And.left)⟩
theorem all_one {l : List Value} (h : l.all (·.oneCell') = true) : l.toArray.all (·.oneCell') = true := by rw [List.all_toArray]; exact h
section
variable {ops : Array Oper} {Q : Exit → Act → World → Prop} {R : Nat → Prop} {a : Act} {w : World} {o : Oper} {T : Nat → Prop}
theorem tm_one (q : Pl) (t : Tm) : (#[.int .i64 t.kind, .int .i64 t.num, .string t.name, .int .i64 t.lv.kind, .int .i64 t.lv.num, .slice q.A t.lv.kids.length q.c, .slice q.B t.ls.length q.d, .slice q.K t.kids.length q.e] : Array Value).all (·.oneCell') = true := all_one (l := [.int .i64 t.kind, .int .i64 t.num, .string t.name, .int .i64 t.lv.kind, .int .i64 t.lv.num, .slice q.A t.lv.kids.length q.c, .slice q.B t.ls.length q.d, .slice q.K t.kids.length q.e]) rfl
theorem obE_tmPut {V7 : Value} {t t0 : Tm} {q0 : Pl} {O2 : Nat → Prop} {x y : Operand} {g : Nat} (ho : o.op = .store 28 x y) (hw : Region.wanted o (yielded ops a.tmps) = true) (hx : a.eval x = .pointer (some ⟨g, 0, none⟩))
    (hg : w.heap[g]? = some (tmO q0 t0)) (h2 : TmO T t (a.eval y) w O2) (hRg : R g) (hR2 : ∀ k, O2 k → R k) (hTg : ¬ T g) (hOg : ¬ O2 g) (hV : V7 = .pointer (some ⟨g, 0, none⟩)) :
    OwesE Try.prog ops Q R (fun _ w O => ∃ p, V7 = .pointer (some ⟨p, 0, none⟩) ∧ TmBox p T t w O) o a w := by
  obtain ⟨q, hy, ht⟩ := h2
  have hs := run_storeVar_row (P := Try.prog) w g 28 28 _ #[.int .i64 t.kind, .int .i64 t.num, .string t.name, .int .i64 t.lv.kind, .int .i64 t.lv.num, .slice q.A t.lv.kids.length q.c, .slice q.B t.ls.length q.d, .slice q.K t.kids.length q.e] hg (by kernel_rfl) rfl (tm_one q t)
  have hother : ∀ k, k ≠ g → (w.setRow g #[.int .i64 t.kind, .int .i64 t.num, .string t.name, .int .i64 t.lv.kind, .int .i64 t.lv.num, .slice q.A t.lv.kids.length q.c, .slice q.B t.ls.length q.d, .slice q.K t.kids.length q.e]).heap[k]? = w.heap[k]? := fun k hk => setRow_other w g k _ hk
  refine obE_store (w' := w.setRow g _) (fun k => k = g ∨ O2 k) hw ?_ ⟨rfl, rfl, rfl, Nat.le_of_eq (size_setRow _ _ _).symm, fun k _ hn => hother k (fun e => hn (e ▸ hRg))⟩ ⟨g, hV, q, setRow_heap w g _ _ _ _ hg, .inl rfl, ?_⟩ (fun k h => .inl (h.elim (fun h => h ▸ hRg) (hR2 k)))
  · unfold execOp
    simp only [ho, hx, hy, tmV, Instr.storeAt, Instr.sureAddr, Sem.run_bind, Sem.run_pure, Result.andThen_ok, hs]
  · refine (ht.mono (S' := fun k => (T k ∨ (k = g ∨ O2 k)) ∧ k ≠ g) fun k h _ => ⟨h.imp id .inr, fun e => h.elim (fun h => hTg (e ▸ h)) (fun h => hOg (e ▸ h))⟩).same (fun k h _ => hother k h.2) |>.mono fun k h _ => h.1.imp id fun h' => ⟨h', h.2⟩
end
abbrev plz : Pl := ⟨none, 0, none, 0, none, 0⟩
theorem TmS.any {w w' : World} {S S' : Nat → Prop} {q : Pl} {t : Tm} (h : TmS w S q t) (h1 : t.lv.kids = []) (h2 : t.ls = []) (h3 : t.kids = []) : TmS w' S' q t := by
  have hlv := h.lv.len
  have hls := h.ls.len
  have hk := h.len
  have hf := h.fit
  obtain ⟨k, n, nm, ⟨lk, ln, lks⟩, ls, ks⟩ := t
  simp only [Tm.lv, Tm.ls, Tm.kids, Lv.kids] at h1 h2 h3
  subst h1 h2 h3
  refine .mk (fun _ => plz) ?_ ?_ hk.1 hk.2 hf (fun i x hx => by simp at hx) (fun i x hx => by simp at hx)
  · exact .mk (fun _ => none) (fun _ => 0) hlv.1 hlv.2 (fun i x hx => by simp at hx) (fun i x hx => by simp at hx)
  · exact .mk (fun _ => none) (fun _ => 0) hls.1 hls.2 (fun i x hx => by simp at hx) (fun i x hx => by simp at hx)
end Go.Proofs.Ytdboloabpjmgaaa

/-! CntW -/
namespace Go.Proofs.Ytdboloabpjmgaaa
open Go.RowKit Go.Proofs.YtdboloabpjmgaaaW.PrintWords Go.RegionInvYtdboloabpjmgaaa

theorem below_drewN {B : Nat} {w w' : World} (h : Below B w w') (n : Nat) : Below B w (w'.drewN n) := ⟨h.os, h.tape, h.output, h.size, h.block⟩
set_option maxHeartbeats 4000000 in
theorem refleaf_calls (t : Tm) (p : Pl) (w : World) (hl : t.kids.length ≤ 9223372036854775807) : Calls Try.prog 77 #[tmV p t] w fun e w' => e = .returned (.bool (leafR t)) ∧ Below w.heap.size w w' := by
  obtain ⟨W, hW⟩ : ∃ W, W = w.alloc (tmO p t) := ⟨_, rfl⟩
  have hb : Below w.heap.size w W := by rw [hW]; exact below_alloc (Below.refl _ _) _
  have HX := Aside0.mk (show W.heap[w.heap.size]? = some (tmO p t) by rw [hW]; exact blk_new _ _)
  have HB := Aside0.mk hb
  clear hb
  unfold tmV
  unfold tmO at hW
  obtain ⟨tk, htk⟩ : ∃ x, t.kind = x := ⟨_, rfl⟩
  obtain ⟨L, hL⟩ : ∃ x, t.kids.length = x := ⟨_, rfl⟩
  obtain ⟨c0, c1, c2, c3, c4, c5, c6, c7⟩ := row8 HX.out
  rw [htk] at hW c0 ⊢
  rw [hL] at hW c7 hl ⊢
  obtain ⟨ar, har⟩ : ∃ x, x = arZ tk := ⟨_, rfl⟩
  have HR := Aside0.mk (show leafR t = decide (ar < 0 ∨ (L : Int) < ar) by unfold leafR; rw [htk, hL, har])
  have HAC := Aside0.mk (show ∀ w, Calls Try.prog 39 #[.int .i64 tk] w fun e w' => e = .returned (.int .i64 ar) ∧ w' = w from fun w => by rw [har]; exact refkids_calls _ _)
  clear htk hL har c1 c2 c3 c4 c5 c6
  go_enter Try.func77, Try.ntmps77
  go_upto_region 1 with (fail)
  rw [← hW]
  clear hW
  by_cases ha : ar < 0
  · have ha' : decide (ar < 0) = true := by simp [ha]
    have HZ := Aside0.mk (show leafR t = true by rw [HR.out]; exact decide_eq_true (.inl ha))
    go_quiet ((go_at_call 39; exact Calls.quiet_of_same (HAC.out _)))
    go_wp2
    go_ret
    rw [HZ.out]
    exact ⟨rfl, below_drewN HB.out _⟩
  · have ha' : decide (ar < 0) = false := by simp; omega
    have HZ := Aside0.mk (show leafR t = decide ((L : Int) < ar) by rw [HR.out]; exact decide_eq_decide.2 ⟨fun h => h.resolve_left ha, .inr⟩)
    go_quiet ((go_at_call 39; exact Calls.quiet_of_same (HAC.out _)))
    go_wp2
    go_ret
    rw [HZ.out]
    exact ⟨rfl, below_drewN HB.out _⟩
def CntPost (g : Nat) (w : World) (r : Bool × Int) (e : Ending) (w' : World) : Prop := e = .returned (.bool r.1) ∧ NumAt w' g r.2 ∧ Chg (fun k => k = g) w w'
theorem leafAt (t : Tm) (p : Pl) (w W : World) (B : Nat) (v : Value) (hv : v = tmV p t) (hl : t.kids.length ≤ 9223372036854775807) :
    Calls Try.prog 77 #[v] w fun e w' => e = .returned (.bool (leafR t)) ∧ Below w.heap.size w w' := hv ▸ refleaf_calls t p w hl
set_option maxRecDepth 100000 in
set_option maxHeartbeats 16000000 in
theorem refcount_calls (N : Nat) : ∀ (t : Tm), SizeOf.sizeOf t < N → ∀ (p : Pl) (d n : Int) (g B : Nat) (w : World), TmIn w B p t → NumAt w g n → B ≤ g → 0 ≤ n → n ≤ 20000 → 0 ≤ d → d ≤ 2001 →
    Calls Try.prog 67 #[tmV p t, .int .i64 d, .pointer (some ⟨g, 0, none⟩)] w (CntPost g w (cntP t d n)) := by
  induction N with
  | zero => intro t h; omega
  | succ N ih =>
    intro t hN p d n g B w hin hg hBg hn0 hn1 hd0 hd1
    have IH := Aside0.mk ih
    have HNN := Aside0.mk hN
    obtain ⟨W, hW⟩ : ∃ W, W = (w.setCell ⟨g, 0, none⟩ (.int .i64 (n + 1))).alloc (tmO p t) := ⟨_, rfl⟩
    have hz1 := blk_lt hg
    have cs := chg_set w g 0 (.int .i64 (n + 1))
    have hch : Chg (fun k => k = g) w W := by rw [hW]; exact chg_trans cs (chg_alloc _ _ _)
    have HCH := Aside0.mk hch
    have K1 := Aside0.mk (show NumAt W g (n + 1) by rw [hW]; exact (hg.set _).alloc _)
    have HX := Aside0.mk (show W.heap[w.heap.size]? = some (tmO p t) by rw [hW]; have := blk_new (w.setCell ⟨g, 0, none⟩ (.int .i64 (n + 1))) (tmO p t); simpa [World.setCell] using this)
    have hgz := hg.cell
    have hfz := blk_frozen hg 0
    have HIN := Aside0.mk (hin.stay (hch.below (fun k e => by omega) (by omega)))
    have hlen := hin.len
    have HKEEP := Aside0.mk (show ∀ (wr : World), Chg (fun k => k = g) w wr → ∀ j, j < B → wr.heap[j]? = W.heap[j]? from fun wr hc j hj => ((hc.block j (by omega) (by omega)).trans (hch.block j (by omega) (by omega)).symm))
    have hbd := cnt_bd _ t (Nat.lt_succ_self _) d n hn1
    have HBD := Aside0.mk hbd
    have HGZ := Aside0.mk (show w.heap.size + 1 ≤ W.heap.size by rw [hW]; simp [World.setCell])
    clear ih hN hin hg cs hch hbd
    obtain ⟨pA, pc, pB, pd, pK, pe⟩ := p
    dsimp only at hlen
    unfold tmV
    unfold tmO at hW
    dsimp only
    obtain ⟨c0, c1, c2, c3, c4, c5, c6, c7⟩ := row8 HX.out
    dsimp only at c5 c6 c7
    clear c1 c2 c3 c4 c5 c6
    obtain ⟨tk, htk⟩ : ∃ x, t.kind = x := ⟨_, rfl⟩
    obtain ⟨L, hL⟩ : ∃ x, t.kids.length = x := ⟨_, rfl⟩
    rw [htk] at hW c0 ⊢
    rw [hL] at hW c7 hlen ⊢
    have HTK := Aside0.mk htk
    have HL := Aside0.mk hL
    have hL9 : L ≤ 9223372036854775807 := by omega
    have HLEAF := Aside0.mk (show ∀ w, Calls Try.prog 77 #[.agg #[.int .i64 tk, .int .i64 t.num, .string t.name, .int .i64 t.lv.kind, .int .i64 t.lv.num, .slice pA t.lv.kids.length pc, .slice pB t.ls.length pd, .slice pK L pe]] w fun e w' => e = .returned (.bool (leafR t)) ∧ Below w.heap.size w w' from fun w => leafAt t ⟨pA, pc, pB, pd, pK, pe⟩ w w 0 _ (by rw [← htk, ← hL]; rfl) (by omega))
    have HX' := Aside0.mk (show W.heap[w.heap.size]? = some (.cells #[.int .i64 tk, .int .i64 t.num, .string t.name, .int .i64 t.lv.kind, .int .i64 t.lv.num, .slice pA t.lv.kids.length pc, .slice pB t.ls.length pd, .slice pK L pe] 28 (0, 0)) by rw [← htk, ← hL]; exact HX.out)
    clear htk hL HX
    go_enter Try.func67, Try.ntmps67
    go_upto_region 2 with (fail)
    rw [← hW]
    clear hW
    by_cases q : 2000 < d
    · have HE := Aside0.mk (cnt_deep (t := t) (n := n) q)
      go_wp2
      go_ret
      rw [HE.out]
      exact ⟨rfl, K1.out, HCH.out⟩
    · have Q := Aside0.mk q
      have q1 : d ≤ 2000 := by omega
      clear q
      cases hlf : leafR t with
      | true =>
        have HLF := Aside0.mk hlf
        have HE := Aside0.mk (cnt_leaf (n := n) Q.out hlf)
        clear hlf
        go_wp2_with (first
          | (refine wpList_load_row rfl 28 _ rfl w.heap.size rfl 28 _ (0, 0) _ HX'.out Try.underlying28 rfl (by kernel_rfl) ?_)
          | (go_at_call 77; go_must (refine (HLEAF.out _).mono ?_; rintro e w2 ⟨rfl, hb⟩; rw [HLF.out]; have HB2 := Aside0.mk hb; clear hb)))
        go_ret
        rw [HE.out]
        exact ⟨rfl, NumAt.below K1.out HB2.out, chg_trans HCH.out (Chg.of_below HB2.out)⟩
      | false =>
        have HLF := Aside0.mk hlf
        have HE := Aside0.mk (cnt_go (n := n) Q.out hlf)
        obtain ⟨hk1, hk2, hk3⟩ := nK_eq hlf
        obtain ⟨ar, har⟩ : ∃ x, nK t = x := ⟨_, rfl⟩
        have HNK := Aside0.mk har
        have HAC := Aside0.mk (show ∀ w, Calls Try.prog 39 #[.int .i64 tk] w fun e w' => e = .returned (.int .i64 (ar : Int)) ∧ w' = w from fun w => by rw [← har, hk1, HTK.out]; exact refkids_calls _ _)
        have har3 : ar ≤ 3 := by rw [← har]; exact nK_le3 t
        have harL : ar ≤ L := by rw [← har, ← HL.out]; exact nK_le t
        have hare : ar ≤ pe := by omega
        have hareI : (ar : Int) ≤ pe := by omega
        clear hlf hk1 hk2 hk3 har
        go_upto_region 6 with (first
          | (refine wpList_load_row rfl 28 _ rfl w.heap.size rfl 28 _ (0, 0) _ HX'.out Try.underlying28 rfl (by kernel_rfl) ?_)
          | (go_at_call 77; go_must (refine (HLEAF.out _).mono ?_; rintro e w2 ⟨rfl, hb⟩; rw [HLF.out]; have HB2 := Aside0.mk hb; have HX2 := Aside0.mk ((hb.block _ (blk_lt HX'.out)).trans HX'.out); clear hb)))
        clear c0 c7
        have c0 : w2.cell? ⟨w.heap.size, 0, none⟩ = some (.int .i64 tk) := by rw [cell_of_row _ _ _ _ _ _ HX2.out]; rfl
        have c7 : w2.cell? ⟨w.heap.size, 7, none⟩ = some (.slice pK L pe) := by rw [cell_of_row _ _ _ _ _ _ HX2.out]; rfl
        go_quiet ((go_at_call 39; exact Calls.quiet_of_same (HAC.out _)))
        have HCW := Aside0.mk (show Chg (fun k => k = g) w w2 from chg_trans HCH.out (Chg.of_below HB2.out))
        have HNW := Aside0.mk (NumAt.below K1.out HB2.out)
        clear c0 c7 K1 HCH HX' HLEAF HX2 HB2
        obtain ⟨qq, hq⟩ := HIN.out.kid
        have HQ := Aside0.mk hq
        clear hq
        go_wp2
        go_loopw [25] (fun i wr => ∃ (k : Nat) (m : Int), i = .int .i64 k ∧ k ≤ ar ∧ 0 ≤ m ∧ m ≤ 20001 ∧ Aside0 (runL (kidsC t d) ((List.finRange (nK t)).drop k) m = runL (kidsC t d) (List.finRange (nK t)) (n + 1)) ∧ Aside0 (NumAt wr g m) ∧ Aside0 (Chg (fun k => k = g) w wr)) (fun i _ => ar - (intOf i).toNat)
        case atStart => exact ⟨0, n + 1, rfl, Nat.zero_le _, by omega, by omega, ⟨by rw [List.drop_zero]⟩, ⟨HNW.out⟩, ⟨chg_drewN HCW.out _⟩⟩
        case round =>
          clear HCW HNW
          obtain ⟨k, m, rfl, hk, hm0, hm1, HK, HNM, HCM⟩ := hrel
          have kc := HNM.out.cell
          have kf := blk_frozen HNM.out 0
          have kz := blk_lt HNM.out
          by_cases hlt : k < ar
          · have hkn : k < nK t := by rw [HNK.out]; exact hlt
            have hx := kidF_get t ⟨k, hkn⟩
            have HDF := Aside0.mk (drop_fin hkn)
            obtain ⟨x, hxe⟩ : ∃ x, kidF t ⟨k, hkn⟩ = x := ⟨_, rfl⟩
            have HXL := Aside0.mk (show SizeOf.sizeOf x < SizeOf.sizeOf t by rw [← hxe]; exact kidF_lt t _)
            rw [hxe] at hx
            obtain ⟨⟨bk, o, hpK, hSb, hcells⟩, hxin⟩ := HQ.out k x hx
            try dsimp only at hpK
            have hbk : ∀ j v, (tmC (qq k) x)[j]? = some v → wr.cell? ⟨bk, o + k * 8 + j, none⟩ = some v := fun j v hv => (cell_same (HKEEP.out wr HCM.out bk hSb)).trans (hcells j v hv)
            have d0 := hbk 0 _ rfl
            have d1 := hbk 1 _ rfl
            have d2 := hbk 2 _ rfl
            have d3 := hbk 3 _ rfl
            have d4 := hbk 4 _ rfl
            have d5 := hbk 5 _ rfl
            have d6 := hbk 6 _ rfl
            have d7 := hbk 7 _ rfl
            rw [Nat.add_zero] at d0
            have HXIN := Aside0.mk (show TmIn wr B (qq k) x from TmS.same hxin fun j hj _ => HKEEP.out wr HCM.out j hj)
            have hbr : B ≤ wr.heap.size := by have := HCM.out.size; omega
            have HPK := Aside0.mk hpK
            rw [hpK]
            have HSTEP := Aside0.mk (show runL (kidsC t d) ((List.finRange (nK t)).drop k) m = if (kidsC t d ⟨k, hkn⟩ m).1 = true then runL (kidsC t d) ((List.finRange (nK t)).drop (k + 1)) (kidsC t d ⟨k, hkn⟩ m).2 else (false, (kidsC t d ⟨k, hkn⟩ m).2) by rw [HDF.out, runL])
            by_cases hm : 20000 < m
            · have HZ := Aside0.mk (show cntP t d n = (false, m) by
                have h1 : kidsC t d ⟨k, hkn⟩ m = (false, m) := if_pos hm
                have h2 := HSTEP.out
                rw [h1, if_neg (fun h => by cases h)] at h2
                rw [HE.out, ← HK.out, h2]; rfl)
              clear hcells hx hxin hbk hpK hkn hxe HSTEP HDF
              go_wp2
              go_ret
              rw [HZ.out]
              exact ⟨rfl, HNM.out.alloc _, chg_trans HCM.out (chg_alloc _ _ _)⟩
            · obtain ⟨ev, m2, hev⟩ : ∃ ev m2, cntP x (d + 1) m = (ev, m2) := ⟨_, _, rfl⟩
              have HEV := Aside0.mk hev
              have hkc : kidsC t d ⟨k, hkn⟩ m = (ev, m2) := by rw [← hev, ← hxe]; exact if_neg hm
              have hb2 := cnt_bd _ x (Nat.lt_succ_self _) (d + 1) m (by omega)
              rw [hev] at hb2
              obtain ⟨b1, b2⟩ := hb2
              simp only at b1 b2
              have HST := Aside0.mk (show runL (kidsC t d) ((List.finRange (nK t)).drop k) m = if ev = true then runL (kidsC t d) ((List.finRange (nK t)).drop (k + 1)) m2 else (false, m2) by have h := HSTEP.out; rw [hkc] at h; exact h)
              clear hcells hx hxin hbk hpK hkn hxe HSTEP HDF hev hkc
              cases ev with
              | true =>
                have HK2 := Aside0.mk ((HST.out.trans (if_pos rfl)).symm.trans HK.out)
                clear HST
                go_wp2_with (go_at_call 67; go_must (refine (IH.out x (by have := HXL.out; have := HNN.out; omega) (qq k) (d + 1) m g B _ (TmIn.stay HXIN.out ((Below.refl _ _).alloc (by omega) _)) (HNM.out.alloc _) (by omega) hm0 (by omega) (by omega) (by omega)).mono ?_; rintro e w3 ⟨rfl, hg1, hc1⟩; rw [HEV.out] at hg1 ⊢; have HG2 := Aside0.mk hg1; have HC3 := Aside0.mk (chg_trans HCM.out (chg_trans (chg_alloc _ _ _) hc1)); clear hg1 hc1))
                go_roundw
                case rel => exact ⟨k + 1, m2, by go_num, by omega, by omega, by omega, HK2, HG2, HC3⟩
                case measure => (simp [intOf]; try omega)
              | false =>
                have HZ := Aside0.mk (show cntP t d n = (false, m2) by rw [HE.out, ← HK.out, HST.out, if_neg (by decide)]; rfl)
                clear HST
                go_wp2_with (go_at_call 67; go_must (refine (IH.out x (by have := HXL.out; have := HNN.out; omega) (qq k) (d + 1) m g B _ (TmIn.stay HXIN.out ((Below.refl _ _).alloc (by omega) _)) (HNM.out.alloc _) (by omega) hm0 (by omega) (by omega) (by omega)).mono ?_; rintro e w3 ⟨rfl, hg1, hc1⟩; rw [HEV.out] at hg1 ⊢; have HG2 := Aside0.mk hg1; have HC3 := Aside0.mk (chg_trans HCM.out (chg_trans (chg_alloc _ _ _) hc1)); clear hg1 hc1))
                go_ret
                rw [HZ.out]
                exact ⟨rfl, HG2.out, HC3.out⟩
          · obtain rfl : k = ar := by omega
            have hlt' : decide ((k : Int) < k) = false := by simp
            have HZ := Aside0.mk (show cntP t d n = (decide (m ≤ 20000), m) by rw [HE.out, ← HK.out, List.drop_of_length_le (by rw [List.length_finRange, HNK.out]; exact Nat.le_refl _)]; rfl)
            go_wp2
            go_ret
            rw [HZ.out]
            exact ⟨rfl, HNM.out, HCM.out⟩
end Go.Proofs.Ytdboloabpjmgaaa

/-! RSz -/
namespace Go.Proofs.Ytdboloabpjmgaaa
open Go.RowKit Go.Proofs.YtdboloabpjmgaaaW.PrintWords Go.RegionInvYtdboloabpjmgaaa

set_option maxRecDepth 100000 in
set_option maxHeartbeats 4000000 in
theorem refSize_calls (t : Tm) (p : Pl) (w : World) (hin : TmIn w w.heap.size p t) : Calls Try.prog 21 #[tmV p t] w fun e w' => e = .returned (.int .i64 (measP t).1) ∧ Below w.heap.size w w' := by
  have HIN := Aside0.mk hin
  obtain ⟨W, hW⟩ : ∃ W, W = (w.alloc (tmO p t)).alloc (.cells #[.int .i64 0] 3 (0, 0)) := ⟨_, rfl⟩
  have hb : Below w.heap.size w W := by rw [hW]; exact below_alloc (below_alloc (Below.refl _ _) _) _
  have HX := Aside0.mk (show W.heap[w.heap.size]? = some (tmO p t) by rw [hW]; exact blk_alloc (blk_new _ _) _)
  have HN1 := Aside0.mk (show NumAt W (w.heap.size + 1) 0 by rw [hW]; have := blk_new (w.alloc (tmO p t)) (.cells #[.int .i64 0] 3 (0, 0)); simp only [World.size_alloc] at this; exact this)
  have HB := Aside0.mk hb
  have HV := Aside0.mk (great_ok t)
  clear hin hb
  unfold tmV
  unfold tmO at hW
  go_enter Try.func21, Try.ntmps21
  go_upto_region 2 with (fail)
  rw [← hW]
  clear hW
  by_cases hk : okT t
  · have HM := Aside0.mk (show (measP t).1 = (sizeT t : Int) by rw [meas_yes hk])
    have HE := Aside0.mk (show cntP t 1 0 = (true, (sizeT t : Int)) by rw [cnt_ok _ t (Nat.lt_succ_self _) 1 0 (by have := hk.2; omega) (by have := hk.1; omega)]; rw [Int.zero_add])
    clear hk
    go_upto_region 4 with (first
      | (refine wpList_load_row rfl 28 _ rfl w.heap.size rfl 28 _ (0, 0) _ HX.out Try.underlying28 rfl (by kernel_rfl) ?_)
      | (go_at_call 67; go_must (refine (refcount_calls _ t (Nat.lt_succ_self _) p 1 0 (w.heap.size + 1) w.heap.size W (HIN.out.stay HB.out) HN1.out (by omega) (by decide) (by decide) (by decide) (by decide)).mono ?_; rintro e w2 ⟨rfl, hN, hC⟩; rw [HE.out] at hN ⊢; have HN2 := Aside0.mk hN; have HB2 := Aside0.mk (Chg.trans_below HB.out hC (fun k h => by omega) HB.out.size); clear hN hC)))
    have r1 := NumAt.cell HN2.out
    go_wp2
    go_ret
    rw [HM.out]
    exact ⟨rfl, HB2.out⟩
  · have HM := Aside0.mk (show (measP t).1 = 0 by rw [meas_no hk])
    have HE := Aside0.mk (show (cntP t 1 0).1 = false by rw [HV.out, decide_eq_false hk])
    clear hk
    go_wp2_with (first
      | (refine wpList_load_row rfl 28 _ rfl w.heap.size rfl 28 _ (0, 0) _ HX.out Try.underlying28 rfl (by kernel_rfl) ?_)
      | (go_at_call 67; go_must (refine (refcount_calls _ t (Nat.lt_succ_self _) p 1 0 (w.heap.size + 1) w.heap.size W (HIN.out.stay HB.out) HN1.out (by omega) (by decide) (by decide) (by decide) (by decide)).mono ?_; rintro e w2 ⟨rfl, -, hC⟩; rw [HE.out]; have HB2 := Aside0.mk (Chg.trans_below HB.out hC (fun k h => by omega) HB.out.size); clear hC)))
    go_ret
    rw [HM.out]
    exact ⟨rfl, HB2.out⟩
end Go.Proofs.Ytdboloabpjmgaaa

/-! NeqB -/
namespace Go.Proofs.Ytdboloabpjmgaaa
open Go.RowKit Go.Proofs.YtdboloabpjmgaaaW.PrintWords Go.RegionInvYtdboloabpjmgaaa Go.RegionEYtdboloabpjmgaaa
section
variable {P : Program} {ops : Array Oper} {Q : Exit → Act → World → Prop} {Cj : List Nat} {O : Nat → Nat → Prop} {G : Value → World → (Nat → Prop) → Prop} {o : Oper} {a : Act} {w : World}
theorem ob_neB {t t' : TypeId} {x y : Operand} {m n : Bool} (b : Bool) (ho : o.op = .binOp .neq t x y t') (hx : a.eval x = .bool m) (hy : a.eval y = .bool n) (hu : P.underlying t = some .bool) (hb : (m != n) = b)
    (hw : Region.wanted o (yielded ops a.tmps) = true) (hG : G (.bool b) w fun _ => False) : Owes P ops Q Cj O G o a w :=
  ob_run hw (by unfold execOp; rw [ho]; simp only []; rw [hx, hy]; subst hb; simp [go_sem, run_neq_bool w t m n hu, bne]) hG
end
end Go.Proofs.Ytdboloabpjmgaaa

/-! SeR -/
namespace Go.Proofs.Ytdboloabpjmgaaa
open Go.RowKit Go.Proofs.YtdboloabpjmgaaaW.PrintWords Go.RegionInvYtdboloabpjmgaaa Go.RegionEYtdboloabpjmgaaa
set_option linter.unusedVariables false

def spn_ops : List Oper := [
  { dst := some 6, op := Go.Op.fieldAddr 28 (Go.Operand.tmp 2) 0, type := 0, pos := "term.go:249", after := #[], guard := none },
  { dst := some 7, op := Go.Op.load 3 (Go.Operand.tmp 6), type := 3, pos := "term.go:249", after := #[{ on := 0, ground := Go.Ground.data }], guard := none },
  { dst := some 8, op := Go.Op.fieldAddr 28 (Go.Operand.tmp 3) 0, type := 0, pos := "term.go:249", after := #[], guard := none },
  { dst := some 9, op := Go.Op.load 3 (Go.Operand.tmp 8), type := 3, pos := "term.go:249", after := #[{ on := 2, ground := Go.Ground.data }], guard := none },
  { dst := some 10, op := Go.Op.binOp Go.BinOp.neq 3 (Go.Operand.tmp 7) (Go.Operand.tmp 9) 3, type := 4, pos := "term.go:249", after := #[{ on := 1, ground := Go.Ground.data }, { on := 3, ground := Go.Ground.data }], guard := none },
  { dst := some 11, op := Go.Op.move (Go.Operand.tmp 10), type := 4, pos := "term.go:249", after := #[{ on := 4, ground := Go.Ground.data }], guard := none },
  { dst := some 12, op := Go.Op.load 28 (Go.Operand.tmp 2), type := 28, pos := "term.go:249", after := #[{ on := 5, ground := Go.Ground.guard }], guard := some (5, false) },
  { dst := some 13, op := Go.Op.call { callee := Go.Callee.value (Go.Operand.func 75), args := #[Go.Operand.tmp 12], argTypes := #[28] }, type := 4, pos := "term.go:249", after := #[{ on := 6, ground := Go.Ground.data }, { on := 5, ground := Go.Ground.chain }, { on := 5, ground := Go.Ground.guard }], guard := some (5, false) },
  { dst := some 14, op := Go.Op.load 28 (Go.Operand.tmp 3), type := 28, pos := "term.go:249", after := #[{ on := 5, ground := Go.Ground.guard }], guard := some (5, false) },
  { dst := some 15, op := Go.Op.call { callee := Go.Callee.value (Go.Operand.func 75), args := #[Go.Operand.tmp 14], argTypes := #[28] }, type := 4, pos := "term.go:249", after := #[{ on := 8, ground := Go.Ground.data }, { on := 7, ground := Go.Ground.chain }, { on := 5, ground := Go.Ground.guard }], guard := some (5, false) },
  { dst := some 16, op := Go.Op.binOp Go.BinOp.neq 4 (Go.Operand.tmp 13) (Go.Operand.tmp 15) 4, type := 4, pos := "term.go:249", after := #[{ on := 7, ground := Go.Ground.data }, { on := 9, ground := Go.Ground.data }, { on := 5, ground := Go.Ground.guard }], guard := some (5, false) },
  { dst := some 17, op := Go.Op.pick (Go.Operand.tmp 11) (Go.Operand.const (Go.Value.bool true)) (Go.Operand.tmp 16), type := 4, pos := "term.go:249", after := #[{ on := 5, ground := Go.Ground.data }, { on := 10, ground := Go.Ground.data }], guard := none }]
def spn_F (w0 : World) (g h : Nat) (p q : Pl) (t u : Tm) : Nat → (Nat → Value) → Value → World → (Nat → Prop) → Prop := fun rix => match rix with
  | 0 => fun _ v _ _ => v = .pointer (some ⟨g, 0, none⟩)
  | 1 => fun _ v _ _ => v = .int .i64 t.kind
  | 2 => fun _ v _ _ => v = .pointer (some ⟨h, 0, none⟩)
  | 3 => fun _ v _ _ => v = .int .i64 u.kind
  | 4 => fun _ v _ _ => v = .bool true
  | 5 => fun _ v _ _ => v = .bool true
  | 6 => fun _ v _ _ => v = undef
  | 7 => fun _ v _ _ => v = undef
  | 8 => fun _ v _ _ => v = undef
  | 9 => fun _ v _ _ => v = undef
  | 10 => fun _ v _ _ => v = undef
  | 11 => fun _ v _ _ => v = .bool true
  | _ => fun _ _ _ _ => True
def spn_C : Nat → List Nat := fun rix => match rix with
  | _ => []
theorem spn_nw2 : nwB spn_ops.toArray 2 = true := by kernel_rfl
theorem spn_nw3 : nwB spn_ops.toArray 3 = true := by kernel_rfl
set_option maxRecDepth 100000 in
set_option maxHeartbeats 8000000 in
theorem spn_obs (w0 : World) (g h : Nat) (p q : Pl) (t u : Tm) (hx2 : w0.heap[g]? = some (tmO p t)) (hx3 : w0.heap[h]? = some (tmO q u)) (hkk : t.kind ≠ u.kind) (Q : Exit → Act → World → Prop) (a0 : Act) (hi2 : a0.tmps.getD 2 undef = .pointer (some ⟨g, 0, none⟩)) (hi3 : a0.tmps.getD 3 undef = .pointer (some ⟨h, 0, none⟩)) :
    ObsE Try.prog spn_ops.toArray Q (est2 0 0 (fun _ => False) (fun _ => False)) spn_C (spn_F w0 g h p q t u) a0 w0 spn_ops.toArray.toList 0 := by
  have nw2 := spn_nw2
  have nw3 := spn_nw3
  refine ⟨?_, ?_, ?_, ?_, ?_, ?_, ?_, ?_, ?_, ?_, ?_, ?_, trivial⟩
  · refine ⟨⟨fun τ => stableE_det _, leans_not⟩, ?_⟩
    intro a w O hk
    have e2 : a.eval (.tmp 2) = .pointer (some ⟨g, 0, none⟩) := (hk.init 2 (initialB_of_nw nw2)).trans hi2
    exact obE_run (wanted_none rfl) (by unfold execOp; simp only []; rw [e2]; go_simp) rfl
  · refine ⟨⟨fun τ => stableE_det _, leans_not⟩, ?_⟩
    intro a w O hk
    have e6 : a.eval (.tmp 6) = .pointer (some ⟨g, 0, none⟩) := hk.fact 0 _ 6 rfl rfl rfl rfl
    have x2 := hk.world.still hx2 (fun ⟨_, h⟩ => h.elim And.right And.right)
    obtain ⟨p0, p1, p2, p3, p4, p5, p6, p7⟩ := row8 x2
    exact obE_run (wanted_none rfl) (by unfold execOp; simp only []; rw [e6]; go_simp) rfl
  · refine ⟨⟨fun τ => stableE_det _, leans_not⟩, ?_⟩
    intro a w O hk
    have e3 : a.eval (.tmp 3) = .pointer (some ⟨h, 0, none⟩) := (hk.init 3 (initialB_of_nw nw3)).trans hi3
    exact obE_run (wanted_none rfl) (by unfold execOp; simp only []; rw [e3]; go_simp) rfl
  · refine ⟨⟨fun τ => stableE_det _, leans_not⟩, ?_⟩
    intro a w O hk
    have e8 : a.eval (.tmp 8) = .pointer (some ⟨h, 0, none⟩) := hk.fact 2 _ 8 rfl rfl rfl rfl
    have x3 := hk.world.still hx3 (fun ⟨_, h⟩ => h.elim And.right And.right)
    obtain ⟨p0, p1, p2, p3, p4, p5, p6, p7⟩ := row8 x3
    exact obE_run (wanted_none rfl) (by unfold execOp; simp only []; rw [e8]; go_simp) rfl
  · refine ⟨⟨fun τ => stableE_det _, leans_not⟩, ?_⟩
    intro a w O hk
    have e7 : a.eval (.tmp 7) = .int .i64 t.kind := hk.fact 1 _ 7 rfl rfl rfl rfl
    have e9 : a.eval (.tmp 9) = .int .i64 u.kind := hk.fact 3 _ 9 rfl rfl rfl rfl
    exact toE (ob_neqInt true rfl e7 e9 (by simp [hkk]) (wanted_none rfl) rfl)
  · refine ⟨⟨fun τ => stableE_det _, leans_not⟩, ?_⟩
    intro a w O hk
    have e10 : a.eval (.tmp 10) = .bool true := hk.fact 4 _ 10 rfl rfl rfl rfl
    exact toE (ob_move rfl e10 (wanted_none rfl) rfl)
  · refine ⟨⟨fun τ => stableE_det _, leans_not⟩, ?_⟩
    intro a w O hk
    have e2 : a.eval (.tmp 2) = .pointer (some ⟨g, 0, none⟩) := (hk.init 2 (initialB_of_nw nw2)).trans hi2
    have e11 : a.eval (.tmp 11) = .bool true := hk.fact 5 _ 11 rfl rfl rfl rfl
    exact toE (ob_skip (unwanted_of rfl rfl rfl e11 (by decide)) rfl)
  · refine ⟨⟨fun τ => stableE_det _, leans_not⟩, ?_⟩
    intro a w O hk
    have e12 : a.eval (.tmp 12) = undef := hk.fact 6 _ 12 rfl rfl rfl rfl
    have e11 : a.eval (.tmp 11) = .bool true := hk.fact 5 _ 11 rfl rfl rfl rfl
    exact toE (ob_skip (unwanted_of rfl rfl rfl e11 (by decide)) rfl)
  · refine ⟨⟨fun τ => stableE_det _, leans_not⟩, ?_⟩
    intro a w O hk
    have e3 : a.eval (.tmp 3) = .pointer (some ⟨h, 0, none⟩) := (hk.init 3 (initialB_of_nw nw3)).trans hi3
    have e11 : a.eval (.tmp 11) = .bool true := hk.fact 5 _ 11 rfl rfl rfl rfl
    exact toE (ob_skip (unwanted_of rfl rfl rfl e11 (by decide)) rfl)
  · refine ⟨⟨fun τ => stableE_det _, leans_not⟩, ?_⟩
    intro a w O hk
    have e14 : a.eval (.tmp 14) = undef := hk.fact 8 _ 14 rfl rfl rfl rfl
    have e11 : a.eval (.tmp 11) = .bool true := hk.fact 5 _ 11 rfl rfl rfl rfl
    exact toE (ob_skip (unwanted_of rfl rfl rfl e11 (by decide)) rfl)
  · refine ⟨⟨fun τ => stableE_det _, leans_not⟩, ?_⟩
    intro a w O hk
    have e13 : a.eval (.tmp 13) = undef := hk.fact 7 _ 13 rfl rfl rfl rfl
    have e15 : a.eval (.tmp 15) = undef := hk.fact 9 _ 15 rfl rfl rfl rfl
    have e11 : a.eval (.tmp 11) = .bool true := hk.fact 5 _ 11 rfl rfl rfl rfl
    exact toE (ob_skip (unwanted_of rfl rfl rfl e11 (by decide)) rfl)
  · refine ⟨⟨fun τ => stableE_det _, leans_not⟩, ?_⟩
    intro a w O hk
    have e11 : a.eval (.tmp 11) = .bool true := hk.fact 5 _ 11 rfl rfl rfl rfl
    have e16 : a.eval (.tmp 16) = undef := hk.fact 10 _ 16 rfl rfl rfl rfl
    exact toE (ob_pick rfl e11 rfl (wanted_none rfl) rfl)
set_option maxRecDepth 100000 in
set_option maxHeartbeats 8000000 in
theorem spn_region {Q : Exit → Act → World → Prop} {id : Nat} (w0 : World) (g h : Nat) (p q : Pl) (t u : Tm) {s0 s1 s4 s5 s6 s7 s8 s9 s10 s11 s12 s13 s14 s15 s16 s17 s18 s19 s20 s21 s22 s23 s24 s25 s26 s27 s28 s29 s30 s31 s32 s33 s34 s35 s36 s37 s38 s39 s40 s41 s42 s43 s44 s45 s46 s47 s48 s49 s50 s51 s52 s53 s54 s55 s56 s57 s58 s59 s60 s61 s62 s63 s64 s65 s66 s67 s68 : Value} (hx2 : w0.heap[g]? = some (tmO p t)) (hx3 : w0.heap[h]? = some (tmO q u)) (hkk : t.kind ≠ u.kind)
    (hend : ∀ (w' : World), Chg (fun k => False ∨ False) w0 w' → Q .normal { tmps := (s0 :: s1 :: (.pointer (some ⟨g, 0, none⟩)) :: (.pointer (some ⟨h, 0, none⟩)) :: s4 :: s5 :: (.pointer (some ⟨g, 0, none⟩)) :: (.int .i64 t.kind) :: (.pointer (some ⟨h, 0, none⟩)) :: (.int .i64 u.kind) :: (.bool true) :: (.bool true) :: undef :: undef :: undef :: undef :: undef :: (.bool true) :: s18 :: s19 :: s20 :: s21 :: s22 :: s23 :: s24 :: s25 :: s26 :: s27 :: s28 :: s29 :: s30 :: s31 :: s32 :: s33 :: s34 :: s35 :: s36 :: s37 :: s38 :: s39 :: s40 :: s41 :: s42 :: s43 :: s44 :: s45 :: s46 :: s47 :: s48 :: s49 :: s50 :: s51 :: s52 :: s53 :: s54 :: s55 :: s56 :: s57 :: s58 :: s59 :: s60 :: s61 :: s62 :: s63 :: s64 :: s65 :: s66 :: s67 :: s68 :: [] : List Value).toArray, defers := [] } w') :
    (Code.region id spn_ops.toArray true).wp Try.prog Q { tmps := (s0 :: s1 :: (.pointer (some ⟨g, 0, none⟩)) :: (.pointer (some ⟨h, 0, none⟩)) :: s4 :: s5 :: s6 :: s7 :: s8 :: s9 :: s10 :: s11 :: s12 :: s13 :: s14 :: s15 :: s16 :: s17 :: s18 :: s19 :: s20 :: s21 :: s22 :: s23 :: s24 :: s25 :: s26 :: s27 :: s28 :: s29 :: s30 :: s31 :: s32 :: s33 :: s34 :: s35 :: s36 :: s37 :: s38 :: s39 :: s40 :: s41 :: s42 :: s43 :: s44 :: s45 :: s46 :: s47 :: s48 :: s49 :: s50 :: s51 :: s52 :: s53 :: s54 :: s55 :: s56 :: s57 :: s58 :: s59 :: s60 :: s61 :: s62 :: s63 :: s64 :: s65 :: s66 :: s67 :: s68 :: [] : List Value).toArray, defers := [] } w0 := by
  refine wp_region_est (by kernel_rfl) (est2 0 0 (fun _ => False) (fun _ => False)) spn_C (spn_F w0 g h p q t u) (est2_dis (fun _ h _ => h)) (est2_range (fun _ h => h.elim) (fun _ h => h.elim)) (by rfl) (by kernel_rfl) (spn_obs w0.drew g h p q t u hx2 hx3 hkk _ _ rfl rfl) ?_
  intro a w' O hd hs hb hf hf2 ha hsame
  have hl := slots_eq (ops := spn_ops.toArray) [(6, .pointer (some ⟨g, 0, none⟩)), (7, .int .i64 t.kind), (8, .pointer (some ⟨h, 0, none⟩)), (9, .int .i64 u.kind), (10, .bool true), (11, .bool true), (12, undef), (13, undef), (14, undef), (15, undef), (16, undef), (17, .bool true)] (show a.tmps.size = 69 from hs) (fun i h => hsame i h) ⟨(hf 0 _ 6 rfl rfl (by decide)).1, (hf 1 _ 7 rfl rfl (by decide)).1, (hf 2 _ 8 rfl rfl (by decide)).1, (hf 3 _ 9 rfl rfl (by decide)).1, (hf 4 _ 10 rfl rfl (by decide)).1, (hf 5 _ 11 rfl rfl (by decide)).1, (hf 6 _ 12 rfl rfl (by decide)).1, (hf 7 _ 13 rfl rfl (by decide)).1, (hf 8 _ 14 rfl rfl (by decide)).1, (hf 9 _ 15 rfl rfl (by decide)).1, (hf 10 _ 16 rfl rfl (by decide)).1, (hf 11 _ 17 rfl rfl (by decide)).1, trivial⟩ (by kernel_rfl)
  obtain ⟨tmps, defers⟩ := a
  obtain rfl : defers = [] := hd
  have hl' : tmps = _ := hl
  rw [hl']
  have hb' := est2_chg hb
  refine Eq.mp ?_ (hend w' ⟨hb'.os, hb'.tape, hb'.output, hb'.size, hb'.block⟩)
  kernel_rfl

def spy_F (w0 : World) (g h : Nat) (p q : Pl) (t u : Tm) (la lb nl : Bool) : Nat → (Nat → Value) → Value → World → (Nat → Prop) → Prop := fun rix => match rix with
  | 0 => fun _ v _ _ => v = .pointer (some ⟨g, 0, none⟩)
  | 1 => fun _ v _ _ => v = .int .i64 t.kind
  | 2 => fun _ v _ _ => v = .pointer (some ⟨h, 0, none⟩)
  | 3 => fun _ v _ _ => v = .int .i64 u.kind
  | 4 => fun _ v _ _ => v = .bool false
  | 5 => fun _ v _ _ => v = .bool false
  | 6 => fun _ v _ _ => v = tmV p t
  | 7 => fun _ v _ _ => v = .bool la
  | 8 => fun _ v _ _ => v = tmV q u
  | 9 => fun _ v _ _ => v = .bool lb
  | 10 => fun _ v _ _ => v = .bool nl
  | 11 => fun _ v _ _ => v = .bool nl
  | _ => fun _ _ _ _ => True
def spy_C : Nat → List Nat := fun rix => match rix with
  | _ => []
theorem spy_nw2 : nwB spn_ops.toArray 2 = true := by kernel_rfl
theorem spy_nw3 : nwB spn_ops.toArray 3 = true := by kernel_rfl
set_option maxRecDepth 100000 in
set_option maxHeartbeats 8000000 in
theorem spy_obs (w0 : World) (g h : Nat) (p q : Pl) (t u : Tm) (la lb nl : Bool) (hx2 : w0.heap[g]? = some (tmO p t)) (hx3 : w0.heap[h]? = some (tmO q u)) (hkk : t.kind = u.kind) (hla : leafT t = la) (hlb : leafT u = lb) (hnl : (la != lb) = nl) (Q : Exit → Act → World → Prop) (a0 : Act) (hi2 : a0.tmps.getD 2 undef = .pointer (some ⟨g, 0, none⟩)) (hi3 : a0.tmps.getD 3 undef = .pointer (some ⟨h, 0, none⟩)) :
    ObsE Try.prog spn_ops.toArray Q (est2 0 0 (fun _ => False) (fun _ => False)) spy_C (spy_F w0 g h p q t u la lb nl) a0 w0 spn_ops.toArray.toList 0 := by
  have nw2 := spy_nw2
  have nw3 := spy_nw3
  refine ⟨?_, ?_, ?_, ?_, ?_, ?_, ?_, ?_, ?_, ?_, ?_, ?_, trivial⟩
  · refine ⟨⟨fun τ => stableE_det _, leans_not⟩, ?_⟩
    intro a w O hk
    have e2 : a.eval (.tmp 2) = .pointer (some ⟨g, 0, none⟩) := (hk.init 2 (initialB_of_nw nw2)).trans hi2
    exact obE_run (wanted_none rfl) (by unfold execOp; simp only []; rw [e2]; go_simp) rfl
  · refine ⟨⟨fun τ => stableE_det _, leans_not⟩, ?_⟩
    intro a w O hk
    have e6 : a.eval (.tmp 6) = .pointer (some ⟨g, 0, none⟩) := hk.fact 0 _ 6 rfl rfl rfl rfl
    have x2 := hk.world.still hx2 (fun ⟨_, h⟩ => h.elim And.right And.right)
    obtain ⟨p0, p1, p2, p3, p4, p5, p6, p7⟩ := row8 x2
    exact obE_run (wanted_none rfl) (by unfold execOp; simp only []; rw [e6]; go_simp) rfl
  · refine ⟨⟨fun τ => stableE_det _, leans_not⟩, ?_⟩
    intro a w O hk
    have e3 : a.eval (.tmp 3) = .pointer (some ⟨h, 0, none⟩) := (hk.init 3 (initialB_of_nw nw3)).trans hi3
    exact obE_run (wanted_none rfl) (by unfold execOp; simp only []; rw [e3]; go_simp) rfl
  · refine ⟨⟨fun τ => stableE_det _, leans_not⟩, ?_⟩
    intro a w O hk
    have e8 : a.eval (.tmp 8) = .pointer (some ⟨h, 0, none⟩) := hk.fact 2 _ 8 rfl rfl rfl rfl
    have x3 := hk.world.still hx3 (fun ⟨_, h⟩ => h.elim And.right And.right)
    obtain ⟨p0, p1, p2, p3, p4, p5, p6, p7⟩ := row8 x3
    exact obE_run (wanted_none rfl) (by unfold execOp; simp only []; rw [e8]; go_simp) rfl
  · refine ⟨⟨fun τ => stableE_det _, leans_not⟩, ?_⟩
    intro a w O hk
    have e7 : a.eval (.tmp 7) = .int .i64 t.kind := hk.fact 1 _ 7 rfl rfl rfl rfl
    have e9 : a.eval (.tmp 9) = .int .i64 u.kind := hk.fact 3 _ 9 rfl rfl rfl rfl
    exact toE (ob_neqInt false rfl e7 e9 (by simp [hkk]) (wanted_none rfl) rfl)
  · refine ⟨⟨fun τ => stableE_det _, leans_not⟩, ?_⟩
    intro a w O hk
    have e10 : a.eval (.tmp 10) = .bool false := hk.fact 4 _ 10 rfl rfl rfl rfl
    exact toE (ob_move rfl e10 (wanted_none rfl) rfl)
  · refine ⟨⟨fun τ => stableE_det _, leans_not⟩, ?_⟩
    intro a w O hk
    have e2 : a.eval (.tmp 2) = .pointer (some ⟨g, 0, none⟩) := (hk.init 2 (initialB_of_nw nw2)).trans hi2
    have e11 : a.eval (.tmp 11) = .bool false := hk.fact 5 _ 11 rfl rfl rfl rfl
    have x2 := hk.world.still hx2 (fun ⟨_, h⟩ => h.elim And.right And.right)
    exact obE_loadRow rfl e2 x2 Try.underlying28 rfl (by kernel_rfl) (wanted_of rfl rfl rfl e11) rfl
  · refine ⟨⟨fun τ => stableE_det _, leans_not⟩, ?_⟩
    intro a w O hk
    have e12 : a.eval (.tmp 12) = tmV p t := hk.fact 6 _ 12 rfl rfl rfl rfl
    have e11 : a.eval (.tmp 11) = .bool false := hk.fact 5 _ 11 rfl rfl rfl rfl
    exact obE_callV #[tmV p t] rfl rfl rfl rfl (by simp only [List.map_cons, List.map_nil]; rw [e12]) (wanted_of rfl rfl rfl e11) ((leaf_calls t p w).mono fun e w' h => ⟨by rw [h.1, hla], h.2⟩)
  · refine ⟨⟨fun τ => stableE_det _, leans_not⟩, ?_⟩
    intro a w O hk
    have e3 : a.eval (.tmp 3) = .pointer (some ⟨h, 0, none⟩) := (hk.init 3 (initialB_of_nw nw3)).trans hi3
    have e11 : a.eval (.tmp 11) = .bool false := hk.fact 5 _ 11 rfl rfl rfl rfl
    have x3 := hk.world.still hx3 (fun ⟨_, h⟩ => h.elim And.right And.right)
    exact obE_loadRow rfl e3 x3 Try.underlying28 rfl (by kernel_rfl) (wanted_of rfl rfl rfl e11) rfl
  · refine ⟨⟨fun τ => stableE_det _, leans_not⟩, ?_⟩
    intro a w O hk
    have e14 : a.eval (.tmp 14) = tmV q u := hk.fact 8 _ 14 rfl rfl rfl rfl
    have e11 : a.eval (.tmp 11) = .bool false := hk.fact 5 _ 11 rfl rfl rfl rfl
    exact obE_callV #[tmV q u] rfl rfl rfl rfl (by simp only [List.map_cons, List.map_nil]; rw [e14]) (wanted_of rfl rfl rfl e11) ((leaf_calls u q w).mono fun e w' h => ⟨by rw [h.1, hlb], h.2⟩)
  · refine ⟨⟨fun τ => stableE_det _, leans_not⟩, ?_⟩
    intro a w O hk
    have e13 : a.eval (.tmp 13) = .bool la := hk.fact 7 _ 13 rfl rfl rfl rfl
    have e15 : a.eval (.tmp 15) = .bool lb := hk.fact 9 _ 15 rfl rfl rfl rfl
    have e11 : a.eval (.tmp 11) = .bool false := hk.fact 5 _ 11 rfl rfl rfl rfl
    exact toE (ob_neB nl rfl e13 e15 Try.underlying4 hnl (wanted_of rfl rfl rfl e11) rfl)
  · refine ⟨⟨fun τ => stableE_det _, leans_not⟩, ?_⟩
    intro a w O hk
    have e11 : a.eval (.tmp 11) = .bool false := hk.fact 5 _ 11 rfl rfl rfl rfl
    have e16 : a.eval (.tmp 16) = .bool nl := hk.fact 10 _ 16 rfl rfl rfl rfl
    exact toE (ob_pick rfl e11 e16 (wanted_none rfl) rfl)
set_option maxRecDepth 100000 in
set_option maxHeartbeats 8000000 in
theorem spy_region {Q : Exit → Act → World → Prop} {id : Nat} (w0 : World) (g h : Nat) (p q : Pl) (t u : Tm) (la lb nl : Bool) {s0 s1 s4 s5 s6 s7 s8 s9 s10 s11 s12 s13 s14 s15 s16 s17 s18 s19 s20 s21 s22 s23 s24 s25 s26 s27 s28 s29 s30 s31 s32 s33 s34 s35 s36 s37 s38 s39 s40 s41 s42 s43 s44 s45 s46 s47 s48 s49 s50 s51 s52 s53 s54 s55 s56 s57 s58 s59 s60 s61 s62 s63 s64 s65 s66 s67 s68 : Value} (hx2 : w0.heap[g]? = some (tmO p t)) (hx3 : w0.heap[h]? = some (tmO q u)) (hkk : t.kind = u.kind) (hla : leafT t = la) (hlb : leafT u = lb) (hnl : (la != lb) = nl)
    (hend : ∀ (w' : World), Chg (fun k => False ∨ False) w0 w' → Q .normal { tmps := (s0 :: s1 :: (.pointer (some ⟨g, 0, none⟩)) :: (.pointer (some ⟨h, 0, none⟩)) :: s4 :: s5 :: (.pointer (some ⟨g, 0, none⟩)) :: (.int .i64 t.kind) :: (.pointer (some ⟨h, 0, none⟩)) :: (.int .i64 u.kind) :: (.bool false) :: (.bool false) :: (tmV p t) :: (.bool la) :: (tmV q u) :: (.bool lb) :: (.bool nl) :: (.bool nl) :: s18 :: s19 :: s20 :: s21 :: s22 :: s23 :: s24 :: s25 :: s26 :: s27 :: s28 :: s29 :: s30 :: s31 :: s32 :: s33 :: s34 :: s35 :: s36 :: s37 :: s38 :: s39 :: s40 :: s41 :: s42 :: s43 :: s44 :: s45 :: s46 :: s47 :: s48 :: s49 :: s50 :: s51 :: s52 :: s53 :: s54 :: s55 :: s56 :: s57 :: s58 :: s59 :: s60 :: s61 :: s62 :: s63 :: s64 :: s65 :: s66 :: s67 :: s68 :: [] : List Value).toArray, defers := [] } w') :
    (Code.region id spn_ops.toArray true).wp Try.prog Q { tmps := (s0 :: s1 :: (.pointer (some ⟨g, 0, none⟩)) :: (.pointer (some ⟨h, 0, none⟩)) :: s4 :: s5 :: s6 :: s7 :: s8 :: s9 :: s10 :: s11 :: s12 :: s13 :: s14 :: s15 :: s16 :: s17 :: s18 :: s19 :: s20 :: s21 :: s22 :: s23 :: s24 :: s25 :: s26 :: s27 :: s28 :: s29 :: s30 :: s31 :: s32 :: s33 :: s34 :: s35 :: s36 :: s37 :: s38 :: s39 :: s40 :: s41 :: s42 :: s43 :: s44 :: s45 :: s46 :: s47 :: s48 :: s49 :: s50 :: s51 :: s52 :: s53 :: s54 :: s55 :: s56 :: s57 :: s58 :: s59 :: s60 :: s61 :: s62 :: s63 :: s64 :: s65 :: s66 :: s67 :: s68 :: [] : List Value).toArray, defers := [] } w0 := by
  refine wp_region_est (by kernel_rfl) (est2 0 0 (fun _ => False) (fun _ => False)) spy_C (spy_F w0 g h p q t u la lb nl) (est2_dis (fun _ h _ => h)) (est2_range (fun _ h => h.elim) (fun _ h => h.elim)) (by rfl) (by kernel_rfl) (spy_obs w0.drew g h p q t u la lb nl hx2 hx3 hkk hla hlb hnl _ _ rfl rfl) ?_
  intro a w' O hd hs hb hf hf2 ha hsame
  have hl := slots_eq (ops := spn_ops.toArray) [(6, .pointer (some ⟨g, 0, none⟩)), (7, .int .i64 t.kind), (8, .pointer (some ⟨h, 0, none⟩)), (9, .int .i64 u.kind), (10, .bool false), (11, .bool false), (12, tmV p t), (13, .bool la), (14, tmV q u), (15, .bool lb), (16, .bool nl), (17, .bool nl)] (show a.tmps.size = 69 from hs) (fun i h => hsame i h) ⟨(hf 0 _ 6 rfl rfl (by decide)).1, (hf 1 _ 7 rfl rfl (by decide)).1, (hf 2 _ 8 rfl rfl (by decide)).1, (hf 3 _ 9 rfl rfl (by decide)).1, (hf 4 _ 10 rfl rfl (by decide)).1, (hf 5 _ 11 rfl rfl (by decide)).1, (hf 6 _ 12 rfl rfl (by decide)).1, (hf 7 _ 13 rfl rfl (by decide)).1, (hf 8 _ 14 rfl rfl (by decide)).1, (hf 9 _ 15 rfl rfl (by decide)).1, (hf 10 _ 16 rfl rfl (by decide)).1, (hf 11 _ 17 rfl rfl (by decide)).1, trivial⟩ (by kernel_rfl)
  obtain ⟨tmps, defers⟩ := a
  obtain rfl : defers = [] := hd
  have hl' : tmps = _ := hl
  rw [hl']
  have hb' := est2_chg hb
  refine Eq.mp ?_ (hend w' ⟨hb'.os, hb'.tape, hb'.output, hb'.size, hb'.block⟩)
  kernel_rfl

theorem below_undrew {w0 w : World} (h : Below w0.drew.heap.size w0.drew w) : Below w0.heap.size w0 w := Below.trans (below_drew (Below.refl _ _)) h

def spk_ops : List Oper := [
  { dst := some 56, op := Go.Op.fieldAddr 28 (Go.Operand.tmp 2) 5, type := 0, pos := "term.go:264", after := #[], guard := none },
  { dst := some 57, op := Go.Op.load 26 (Go.Operand.tmp 56), type := 26, pos := "term.go:264", after := #[{ on := 0, ground := Go.Ground.data }], guard := none },
  { dst := some 58, op := Go.Op.move (Go.Operand.tmp 5), type := 3, pos := "term.go:264", after := #[], guard := none },
  { dst := some 59, op := Go.Op.indexAddr 26 (Go.Operand.tmp 57) (Go.Operand.tmp 58), type := 0, pos := "term.go:264", after := #[{ on := 1, ground := Go.Ground.data }, { on := 2, ground := Go.Ground.data }], guard := none },
  { dst := some 60, op := Go.Op.load 28 (Go.Operand.tmp 59), type := 28, pos := "term.go:264", after := #[{ on := 3, ground := Go.Ground.data }], guard := none },
  { dst := some 61, op := Go.Op.fieldAddr 28 (Go.Operand.tmp 3) 5, type := 0, pos := "term.go:264", after := #[], guard := none },
  { dst := some 62, op := Go.Op.load 26 (Go.Operand.tmp 61), type := 26, pos := "term.go:264", after := #[{ on := 5, ground := Go.Ground.data }], guard := none },
  { dst := some 63, op := Go.Op.move (Go.Operand.tmp 5), type := 3, pos := "term.go:264", after := #[], guard := none },
  { dst := some 64, op := Go.Op.indexAddr 26 (Go.Operand.tmp 62) (Go.Operand.tmp 63), type := 0, pos := "term.go:264", after := #[{ on := 6, ground := Go.Ground.data }, { on := 7, ground := Go.Ground.data }], guard := none },
  { dst := some 65, op := Go.Op.load 28 (Go.Operand.tmp 64), type := 28, pos := "term.go:264", after := #[{ on := 8, ground := Go.Ground.data }], guard := none },
  { dst := some 66, op := Go.Op.call { callee := Go.Callee.value (Go.Operand.func 85), args := #[Go.Operand.tmp 60, Go.Operand.tmp 65], argTypes := #[28, 28] }, type := 4, pos := "term.go:264", after := #[{ on := 4, ground := Go.Ground.data }, { on := 9, ground := Go.Ground.data }], guard := none },
  { dst := some 67, op := Go.Op.unOp Go.UnOp.not 4 (Go.Operand.tmp 66), type := 4, pos := "term.go:264", after := #[{ on := 10, ground := Go.Ground.data }], guard := none }]
def spk_F (w0 : World) (g h i : Nat) (p q : Pl) (t u : Tm) (ga oa gd od m1 m2 : Nat) (qx qy : Pl) (x y : Tm) (r : Bool) : Nat → (Nat → Value) → Value → World → (Nat → Prop) → Prop := fun rix => match rix with
  | 0 => fun _ v _ _ => v = .pointer (some ⟨g, 7, none⟩)
  | 1 => fun _ v _ _ => v = .slice (some ⟨ga, oa, none⟩) m1 p.e
  | 2 => fun _ v _ _ => v = .int .i64 i
  | 3 => fun _ v _ _ => v = .pointer (some ⟨ga, oa + i * 8, none⟩)
  | 4 => fun _ v _ _ => v = tmV qx x
  | 5 => fun _ v _ _ => v = .pointer (some ⟨h, 7, none⟩)
  | 6 => fun _ v _ _ => v = .slice (some ⟨gd, od, none⟩) m2 q.e
  | 7 => fun _ v _ _ => v = .int .i64 i
  | 8 => fun _ v _ _ => v = .pointer (some ⟨gd, od + i * 8, none⟩)
  | 9 => fun _ v _ _ => v = tmV qy y
  | 10 => fun _ v _ _ => v = .bool r
  | 11 => fun _ v _ _ => v = .bool (!r)
  | _ => fun _ _ _ _ => True
def spk_C : Nat → List Nat := fun rix => match rix with
  | _ => []
theorem spk_nw2 : nwB spk_ops.toArray 2 = true := by kernel_rfl
theorem spk_nw3 : nwB spk_ops.toArray 3 = true := by kernel_rfl
theorem spk_nw5 : nwB spk_ops.toArray 5 = true := by kernel_rfl
set_option maxRecDepth 100000 in
set_option maxHeartbeats 8000000 in
theorem spk_obs (w0 : World) (g h i : Nat) (p q : Pl) (t u : Tm) (ga oa gd od m1 m2 : Nat) (qx qy : Pl) (x y : Tm) (r : Bool) (hx2 : w0.heap[g]? = some (tmO p t)) (hx3 : w0.heap[h]? = some (tmO q u)) (hpK : p.K = some ⟨ga, oa, none⟩) (hqK : q.K = some ⟨gd, od, none⟩) (hm1 : t.kids.length = m1) (hm2 : u.kids.length = m2) (hga : ga < w0.heap.size) (hgd : gd < w0.heap.size) (him1 : i < m1) (him2 : i < m2) (hpe : m1 ≤ 9223372036854775807) (hqe : m2 ≤ 9223372036854775807) (him9 : i ≤ 3) (ca0 : w0.cell? ⟨ga, oa + i * 8, none⟩ = some (.int .i64 x.kind)) (ca1 : w0.cell? ⟨ga, oa + i * 8 + 1, none⟩ = some (.int .i64 x.num)) (ca2 : w0.cell? ⟨ga, oa + i * 8 + 2, none⟩ = some (.string x.name)) (ca3 : w0.cell? ⟨ga, oa + i * 8 + 3, none⟩ = some (.int .i64 x.lv.kind)) (ca4 : w0.cell? ⟨ga, oa + i * 8 + 4, none⟩ = some (.int .i64 x.lv.num)) (ca5 : w0.cell? ⟨ga, oa + i * 8 + 5, none⟩ = some (.slice qx.A x.lv.kids.length qx.c)) (ca6 : w0.cell? ⟨ga, oa + i * 8 + 6, none⟩ = some (.slice qx.B x.ls.length qx.d)) (ca7 : w0.cell? ⟨ga, oa + i * 8 + 7, none⟩ = some (.slice qx.K x.kids.length qx.e)) (cb0 : w0.cell? ⟨gd, od + i * 8, none⟩ = some (.int .i64 y.kind)) (cb1 : w0.cell? ⟨gd, od + i * 8 + 1, none⟩ = some (.int .i64 y.num)) (cb2 : w0.cell? ⟨gd, od + i * 8 + 2, none⟩ = some (.string y.name)) (cb3 : w0.cell? ⟨gd, od + i * 8 + 3, none⟩ = some (.int .i64 y.lv.kind)) (cb4 : w0.cell? ⟨gd, od + i * 8 + 4, none⟩ = some (.int .i64 y.lv.num)) (cb5 : w0.cell? ⟨gd, od + i * 8 + 5, none⟩ = some (.slice qy.A y.lv.kids.length qy.c)) (cb6 : w0.cell? ⟨gd, od + i * 8 + 6, none⟩ = some (.slice qy.B y.ls.length qy.d)) (cb7 : w0.cell? ⟨gd, od + i * 8 + 7, none⟩ = some (.slice qy.K y.kids.length qy.e)) (hIH : ∀ w, Below w0.heap.size w0 w → Calls Try.prog 85 #[tmV qx x, tmV qy y] w fun e w' => e = .returned (.bool r) ∧ Below w.heap.size w w') (Q : Exit → Act → World → Prop) (a0 : Act) (hi2 : a0.tmps.getD 2 undef = .pointer (some ⟨g, 0, none⟩)) (hi3 : a0.tmps.getD 3 undef = .pointer (some ⟨h, 0, none⟩)) (hi5 : a0.tmps.getD 5 undef = .int .i64 i) :
    ObsE Try.prog spk_ops.toArray Q (est2 0 0 (fun _ => False) (fun _ => False)) spk_C (spk_F w0 g h i p q t u ga oa gd od m1 m2 qx qy x y r) a0 w0 spk_ops.toArray.toList 0 := by
  have nw2 := spk_nw2
  have nw3 := spk_nw3
  have nw5 := spk_nw5
  refine ⟨?_, ?_, ?_, ?_, ?_, ?_, ?_, ?_, ?_, ?_, ?_, ?_, trivial⟩
  · refine ⟨⟨fun τ => stableE_det _, leans_not⟩, ?_⟩
    intro a w O hk
    have e2 : a.eval (.tmp 2) = .pointer (some ⟨g, 0, none⟩) := (hk.init 2 (initialB_of_nw nw2)).trans hi2
    have x2 := hk.world.still hx2 (fun ⟨_, h⟩ => h.elim And.right And.right)
    have x3 := hk.world.still hx3 (fun ⟨_, h⟩ => h.elim And.right And.right)
    have hcc : ∀ j, w.cell? ⟨ga, j, none⟩ = w0.cell? ⟨ga, j, none⟩ := fun j => cell_same ((hk.world.below (fun k ⟨_, h⟩ => h.elim (fun h => h.2.elim) fun h => h.2.elim) (Nat.le_refl _)).block _ hga)
    have hcd : ∀ j, w.cell? ⟨gd, j, none⟩ = w0.cell? ⟨gd, j, none⟩ := fun j => cell_same ((hk.world.below (fun k ⟨_, h⟩ => h.elim (fun h => h.2.elim) fun h => h.2.elim) (Nat.le_refl _)).block _ hgd)
    exact obE_run (wanted_none rfl) (by unfold execOp; simp only []; rw [e2]; go_simp) rfl
  · refine ⟨⟨fun τ => stableE_det _, leans_not⟩, ?_⟩
    intro a w O hk
    have e56 : a.eval (.tmp 56) = .pointer (some ⟨g, 7, none⟩) := hk.fact 0 _ 56 rfl rfl rfl rfl
    have x2 := hk.world.still hx2 (fun ⟨_, h⟩ => h.elim And.right And.right)
    have x3 := hk.world.still hx3 (fun ⟨_, h⟩ => h.elim And.right And.right)
    have hcc : ∀ j, w.cell? ⟨ga, j, none⟩ = w0.cell? ⟨ga, j, none⟩ := fun j => cell_same ((hk.world.below (fun k ⟨_, h⟩ => h.elim (fun h => h.2.elim) fun h => h.2.elim) (Nat.le_refl _)).block _ hga)
    have hcd : ∀ j, w.cell? ⟨gd, j, none⟩ = w0.cell? ⟨gd, j, none⟩ := fun j => cell_same ((hk.world.below (fun k ⟨_, h⟩ => h.elim (fun h => h.2.elim) fun h => h.2.elim) (Nat.le_refl _)).block _ hgd)
    obtain ⟨p0, p1, p2, p3, p4, p5, p6, p7⟩ := row8 x2
    rw [hpK, hm1] at p7
    exact obE_run (wanted_none rfl) (by unfold execOp; simp only []; rw [e56]; go_simp) rfl
  · refine ⟨⟨fun τ => stableE_det _, leans_not⟩, ?_⟩
    intro a w O hk
    have e5 : a.eval (.tmp 5) = .int .i64 i := (hk.init 5 (initialB_of_nw nw5)).trans hi5
    exact toE (ob_move rfl e5 (wanted_none rfl) rfl)
  · refine ⟨⟨fun τ => stableE_det _, leans_not⟩, ?_⟩
    intro a w O hk
    have e57 : a.eval (.tmp 57) = .slice (some ⟨ga, oa, none⟩) m1 p.e := hk.fact 1 _ 57 rfl rfl rfl rfl
    have e58 : a.eval (.tmp 58) = .int .i64 i := hk.fact 2 _ 58 rfl rfl rfl rfl
    have x2 := hk.world.still hx2 (fun ⟨_, h⟩ => h.elim And.right And.right)
    have x3 := hk.world.still hx3 (fun ⟨_, h⟩ => h.elim And.right And.right)
    have hcc : ∀ j, w.cell? ⟨ga, j, none⟩ = w0.cell? ⟨ga, j, none⟩ := fun j => cell_same ((hk.world.below (fun k ⟨_, h⟩ => h.elim (fun h => h.2.elim) fun h => h.2.elim) (Nat.le_refl _)).block _ hga)
    have hcd : ∀ j, w.cell? ⟨gd, j, none⟩ = w0.cell? ⟨gd, j, none⟩ := fun j => cell_same ((hk.world.below (fun k ⟨_, h⟩ => h.elim (fun h => h.2.elim) fun h => h.2.elim) (Nat.le_refl _)).block _ hgd)
    exact obE_run (wanted_none rfl) (by unfold execOp; simp only []; rw [e57, e58]; go_simp) rfl
  · refine ⟨⟨fun τ => stableE_det _, leans_not⟩, ?_⟩
    intro a w O hk
    have e59 : a.eval (.tmp 59) = .pointer (some ⟨ga, oa + i * 8, none⟩) := hk.fact 3 _ 59 rfl rfl rfl rfl
    have x2 := hk.world.still hx2 (fun ⟨_, h⟩ => h.elim And.right And.right)
    have x3 := hk.world.still hx3 (fun ⟨_, h⟩ => h.elim And.right And.right)
    have hcc : ∀ j, w.cell? ⟨ga, j, none⟩ = w0.cell? ⟨ga, j, none⟩ := fun j => cell_same ((hk.world.below (fun k ⟨_, h⟩ => h.elim (fun h => h.2.elim) fun h => h.2.elim) (Nat.le_refl _)).block _ hga)
    have hcd : ∀ j, w.cell? ⟨gd, j, none⟩ = w0.cell? ⟨gd, j, none⟩ := fun j => cell_same ((hk.world.below (fun k ⟨_, h⟩ => h.elim (fun h => h.2.elim) fun h => h.2.elim) (Nat.le_refl _)).block _ hgd)
    have r0 := (hcc _).trans ca0
    have r1 := (hcc _).trans ca1
    have r2 := (hcc _).trans ca2
    have r3 := (hcc _).trans ca3
    have r4 := (hcc _).trans ca4
    have r5 := (hcc _).trans ca5
    have r6 := (hcc _).trans ca6
    have r7 := (hcc _).trans ca7
    exact obE_run (wanted_none rfl) (by unfold execOp; simp only []; rw [e59]; go_simp; rfl) rfl
  · refine ⟨⟨fun τ => stableE_det _, leans_not⟩, ?_⟩
    intro a w O hk
    have e3 : a.eval (.tmp 3) = .pointer (some ⟨h, 0, none⟩) := (hk.init 3 (initialB_of_nw nw3)).trans hi3
    have x2 := hk.world.still hx2 (fun ⟨_, h⟩ => h.elim And.right And.right)
    have x3 := hk.world.still hx3 (fun ⟨_, h⟩ => h.elim And.right And.right)
    have hcc : ∀ j, w.cell? ⟨ga, j, none⟩ = w0.cell? ⟨ga, j, none⟩ := fun j => cell_same ((hk.world.below (fun k ⟨_, h⟩ => h.elim (fun h => h.2.elim) fun h => h.2.elim) (Nat.le_refl _)).block _ hga)
    have hcd : ∀ j, w.cell? ⟨gd, j, none⟩ = w0.cell? ⟨gd, j, none⟩ := fun j => cell_same ((hk.world.below (fun k ⟨_, h⟩ => h.elim (fun h => h.2.elim) fun h => h.2.elim) (Nat.le_refl _)).block _ hgd)
    exact obE_run (wanted_none rfl) (by unfold execOp; simp only []; rw [e3]; go_simp) rfl
  · refine ⟨⟨fun τ => stableE_det _, leans_not⟩, ?_⟩
    intro a w O hk
    have e61 : a.eval (.tmp 61) = .pointer (some ⟨h, 7, none⟩) := hk.fact 5 _ 61 rfl rfl rfl rfl
    have x2 := hk.world.still hx2 (fun ⟨_, h⟩ => h.elim And.right And.right)
    have x3 := hk.world.still hx3 (fun ⟨_, h⟩ => h.elim And.right And.right)
    have hcc : ∀ j, w.cell? ⟨ga, j, none⟩ = w0.cell? ⟨ga, j, none⟩ := fun j => cell_same ((hk.world.below (fun k ⟨_, h⟩ => h.elim (fun h => h.2.elim) fun h => h.2.elim) (Nat.le_refl _)).block _ hga)
    have hcd : ∀ j, w.cell? ⟨gd, j, none⟩ = w0.cell? ⟨gd, j, none⟩ := fun j => cell_same ((hk.world.below (fun k ⟨_, h⟩ => h.elim (fun h => h.2.elim) fun h => h.2.elim) (Nat.le_refl _)).block _ hgd)
    obtain ⟨p0, p1, p2, p3, p4, p5, p6, p7⟩ := row8 x3
    rw [hqK, hm2] at p7
    exact obE_run (wanted_none rfl) (by unfold execOp; simp only []; rw [e61]; go_simp) rfl
  · refine ⟨⟨fun τ => stableE_det _, leans_not⟩, ?_⟩
    intro a w O hk
    have e5 : a.eval (.tmp 5) = .int .i64 i := (hk.init 5 (initialB_of_nw nw5)).trans hi5
    exact toE (ob_move rfl e5 (wanted_none rfl) rfl)
  · refine ⟨⟨fun τ => stableE_det _, leans_not⟩, ?_⟩
    intro a w O hk
    have e62 : a.eval (.tmp 62) = .slice (some ⟨gd, od, none⟩) m2 q.e := hk.fact 6 _ 62 rfl rfl rfl rfl
    have e63 : a.eval (.tmp 63) = .int .i64 i := hk.fact 7 _ 63 rfl rfl rfl rfl
    have x2 := hk.world.still hx2 (fun ⟨_, h⟩ => h.elim And.right And.right)
    have x3 := hk.world.still hx3 (fun ⟨_, h⟩ => h.elim And.right And.right)
    have hcc : ∀ j, w.cell? ⟨ga, j, none⟩ = w0.cell? ⟨ga, j, none⟩ := fun j => cell_same ((hk.world.below (fun k ⟨_, h⟩ => h.elim (fun h => h.2.elim) fun h => h.2.elim) (Nat.le_refl _)).block _ hga)
    have hcd : ∀ j, w.cell? ⟨gd, j, none⟩ = w0.cell? ⟨gd, j, none⟩ := fun j => cell_same ((hk.world.below (fun k ⟨_, h⟩ => h.elim (fun h => h.2.elim) fun h => h.2.elim) (Nat.le_refl _)).block _ hgd)
    exact obE_run (wanted_none rfl) (by unfold execOp; simp only []; rw [e62, e63]; go_simp) rfl
  · refine ⟨⟨fun τ => stableE_det _, leans_not⟩, ?_⟩
    intro a w O hk
    have e64 : a.eval (.tmp 64) = .pointer (some ⟨gd, od + i * 8, none⟩) := hk.fact 8 _ 64 rfl rfl rfl rfl
    have x2 := hk.world.still hx2 (fun ⟨_, h⟩ => h.elim And.right And.right)
    have x3 := hk.world.still hx3 (fun ⟨_, h⟩ => h.elim And.right And.right)
    have hcc : ∀ j, w.cell? ⟨ga, j, none⟩ = w0.cell? ⟨ga, j, none⟩ := fun j => cell_same ((hk.world.below (fun k ⟨_, h⟩ => h.elim (fun h => h.2.elim) fun h => h.2.elim) (Nat.le_refl _)).block _ hga)
    have hcd : ∀ j, w.cell? ⟨gd, j, none⟩ = w0.cell? ⟨gd, j, none⟩ := fun j => cell_same ((hk.world.below (fun k ⟨_, h⟩ => h.elim (fun h => h.2.elim) fun h => h.2.elim) (Nat.le_refl _)).block _ hgd)
    have r0 := (hcd _).trans cb0
    have r1 := (hcd _).trans cb1
    have r2 := (hcd _).trans cb2
    have r3 := (hcd _).trans cb3
    have r4 := (hcd _).trans cb4
    have r5 := (hcd _).trans cb5
    have r6 := (hcd _).trans cb6
    have r7 := (hcd _).trans cb7
    exact obE_run (wanted_none rfl) (by unfold execOp; simp only []; rw [e64]; go_simp; rfl) rfl
  · refine ⟨⟨fun τ => stableE_det _, leans_not⟩, ?_⟩
    intro a w O hk
    have e60 : a.eval (.tmp 60) = tmV qx x := hk.fact 4 _ 60 rfl rfl rfl rfl
    have e65 : a.eval (.tmp 65) = tmV qy y := hk.fact 9 _ 65 rfl rfl rfl rfl
    have x2 := hk.world.still hx2 (fun ⟨_, h⟩ => h.elim And.right And.right)
    have x3 := hk.world.still hx3 (fun ⟨_, h⟩ => h.elim And.right And.right)
    have hcc : ∀ j, w.cell? ⟨ga, j, none⟩ = w0.cell? ⟨ga, j, none⟩ := fun j => cell_same ((hk.world.below (fun k ⟨_, h⟩ => h.elim (fun h => h.2.elim) fun h => h.2.elim) (Nat.le_refl _)).block _ hga)
    have hcd : ∀ j, w.cell? ⟨gd, j, none⟩ = w0.cell? ⟨gd, j, none⟩ := fun j => cell_same ((hk.world.below (fun k ⟨_, h⟩ => h.elim (fun h => h.2.elim) fun h => h.2.elim) (Nat.le_refl _)).block _ hgd)
    exact obE_callV #[tmV qx x, tmV qy y] rfl rfl rfl rfl (by simp only [List.map_cons, List.map_nil]; rw [e60, e65]) (wanted_none rfl) (hIH w (hk.world.below (fun k ⟨_, h⟩ => h.elim (fun h => h.2.elim) fun h => h.2.elim) (Nat.le_refl _)))
  · refine ⟨⟨fun τ => stableE_det _, leans_not⟩, ?_⟩
    intro a w O hk
    have e66 : a.eval (.tmp 66) = .bool r := hk.fact 10 _ 66 rfl rfl rfl rfl
    have x2 := hk.world.still hx2 (fun ⟨_, h⟩ => h.elim And.right And.right)
    have x3 := hk.world.still hx3 (fun ⟨_, h⟩ => h.elim And.right And.right)
    have hcc : ∀ j, w.cell? ⟨ga, j, none⟩ = w0.cell? ⟨ga, j, none⟩ := fun j => cell_same ((hk.world.below (fun k ⟨_, h⟩ => h.elim (fun h => h.2.elim) fun h => h.2.elim) (Nat.le_refl _)).block _ hga)
    have hcd : ∀ j, w.cell? ⟨gd, j, none⟩ = w0.cell? ⟨gd, j, none⟩ := fun j => cell_same ((hk.world.below (fun k ⟨_, h⟩ => h.elim (fun h => h.2.elim) fun h => h.2.elim) (Nat.le_refl _)).block _ hgd)
    exact obE_run (wanted_none rfl) (by unfold execOp; simp only []; rw [e66]; go_simp) rfl
set_option maxRecDepth 100000 in
set_option maxHeartbeats 8000000 in
theorem spk_region {Q : Exit → Act → World → Prop} {id : Nat} (w0 : World) (g h i : Nat) (p q : Pl) (t u : Tm) (ga oa gd od m1 m2 : Nat) (qx qy : Pl) (x y : Tm) (r : Bool) {s0 s1 s4 s6 s7 s8 s9 s10 s11 s12 s13 s14 s15 s16 s17 s18 s19 s20 s21 s22 s23 s24 s25 s26 s27 s28 s29 s30 s31 s32 s33 s34 s35 s36 s37 s38 s39 s40 s41 s42 s43 s44 s45 s46 s47 s48 s49 s50 s51 s52 s53 s54 s55 s56 s57 s58 s59 s60 s61 s62 s63 s64 s65 s66 s67 s68 : Value} (hx2 : w0.heap[g]? = some (tmO p t)) (hx3 : w0.heap[h]? = some (tmO q u)) (hpK : p.K = some ⟨ga, oa, none⟩) (hqK : q.K = some ⟨gd, od, none⟩) (hm1 : t.kids.length = m1) (hm2 : u.kids.length = m2) (hga : ga < w0.heap.size) (hgd : gd < w0.heap.size) (him1 : i < m1) (him2 : i < m2) (hpe : m1 ≤ 9223372036854775807) (hqe : m2 ≤ 9223372036854775807) (him9 : i ≤ 3) (ca0 : w0.cell? ⟨ga, oa + i * 8, none⟩ = some (.int .i64 x.kind)) (ca1 : w0.cell? ⟨ga, oa + i * 8 + 1, none⟩ = some (.int .i64 x.num)) (ca2 : w0.cell? ⟨ga, oa + i * 8 + 2, none⟩ = some (.string x.name)) (ca3 : w0.cell? ⟨ga, oa + i * 8 + 3, none⟩ = some (.int .i64 x.lv.kind)) (ca4 : w0.cell? ⟨ga, oa + i * 8 + 4, none⟩ = some (.int .i64 x.lv.num)) (ca5 : w0.cell? ⟨ga, oa + i * 8 + 5, none⟩ = some (.slice qx.A x.lv.kids.length qx.c)) (ca6 : w0.cell? ⟨ga, oa + i * 8 + 6, none⟩ = some (.slice qx.B x.ls.length qx.d)) (ca7 : w0.cell? ⟨ga, oa + i * 8 + 7, none⟩ = some (.slice qx.K x.kids.length qx.e)) (cb0 : w0.cell? ⟨gd, od + i * 8, none⟩ = some (.int .i64 y.kind)) (cb1 : w0.cell? ⟨gd, od + i * 8 + 1, none⟩ = some (.int .i64 y.num)) (cb2 : w0.cell? ⟨gd, od + i * 8 + 2, none⟩ = some (.string y.name)) (cb3 : w0.cell? ⟨gd, od + i * 8 + 3, none⟩ = some (.int .i64 y.lv.kind)) (cb4 : w0.cell? ⟨gd, od + i * 8 + 4, none⟩ = some (.int .i64 y.lv.num)) (cb5 : w0.cell? ⟨gd, od + i * 8 + 5, none⟩ = some (.slice qy.A y.lv.kids.length qy.c)) (cb6 : w0.cell? ⟨gd, od + i * 8 + 6, none⟩ = some (.slice qy.B y.ls.length qy.d)) (cb7 : w0.cell? ⟨gd, od + i * 8 + 7, none⟩ = some (.slice qy.K y.kids.length qy.e)) (hIH : ∀ w, Below w0.heap.size w0 w → Calls Try.prog 85 #[tmV qx x, tmV qy y] w fun e w' => e = .returned (.bool r) ∧ Below w.heap.size w w')
    (hend : ∀ (w' : World), Chg (fun k => False ∨ False) w0 w' → Q .normal { tmps := (s0 :: s1 :: (.pointer (some ⟨g, 0, none⟩)) :: (.pointer (some ⟨h, 0, none⟩)) :: s4 :: (.int .i64 i) :: s6 :: s7 :: s8 :: s9 :: s10 :: s11 :: s12 :: s13 :: s14 :: s15 :: s16 :: s17 :: s18 :: s19 :: s20 :: s21 :: s22 :: s23 :: s24 :: s25 :: s26 :: s27 :: s28 :: s29 :: s30 :: s31 :: s32 :: s33 :: s34 :: s35 :: s36 :: s37 :: s38 :: s39 :: s40 :: s41 :: s42 :: s43 :: s44 :: s45 :: s46 :: s47 :: s48 :: s49 :: s50 :: s51 :: s52 :: s53 :: s54 :: s55 :: (.pointer (some ⟨g, 7, none⟩)) :: (.slice (some ⟨ga, oa, none⟩) m1 p.e) :: (.int .i64 i) :: (.pointer (some ⟨ga, oa + i * 8, none⟩)) :: (tmV qx x) :: (.pointer (some ⟨h, 7, none⟩)) :: (.slice (some ⟨gd, od, none⟩) m2 q.e) :: (.int .i64 i) :: (.pointer (some ⟨gd, od + i * 8, none⟩)) :: (tmV qy y) :: (.bool r) :: (.bool (!r)) :: s68 :: [] : List Value).toArray, defers := [] } w') :
    (Code.region id spk_ops.toArray true).wp Try.prog Q { tmps := (s0 :: s1 :: (.pointer (some ⟨g, 0, none⟩)) :: (.pointer (some ⟨h, 0, none⟩)) :: s4 :: (.int .i64 i) :: s6 :: s7 :: s8 :: s9 :: s10 :: s11 :: s12 :: s13 :: s14 :: s15 :: s16 :: s17 :: s18 :: s19 :: s20 :: s21 :: s22 :: s23 :: s24 :: s25 :: s26 :: s27 :: s28 :: s29 :: s30 :: s31 :: s32 :: s33 :: s34 :: s35 :: s36 :: s37 :: s38 :: s39 :: s40 :: s41 :: s42 :: s43 :: s44 :: s45 :: s46 :: s47 :: s48 :: s49 :: s50 :: s51 :: s52 :: s53 :: s54 :: s55 :: s56 :: s57 :: s58 :: s59 :: s60 :: s61 :: s62 :: s63 :: s64 :: s65 :: s66 :: s67 :: s68 :: [] : List Value).toArray, defers := [] } w0 := by
  refine wp_region_est (by kernel_rfl) (est2 0 0 (fun _ => False) (fun _ => False)) spk_C (spk_F w0 g h i p q t u ga oa gd od m1 m2 qx qy x y r) (est2_dis (fun _ h _ => h)) (est2_range (fun _ h => h.elim) (fun _ h => h.elim)) (by rfl) (by kernel_rfl) (spk_obs w0.drew g h i p q t u ga oa gd od m1 m2 qx qy x y r hx2 hx3 hpK hqK hm1 hm2 hga hgd him1 him2 hpe hqe him9 ca0 ca1 ca2 ca3 ca4 ca5 ca6 ca7 cb0 cb1 cb2 cb3 cb4 cb5 cb6 cb7 (fun w h => hIH w (below_undrew h)) _ _ rfl rfl rfl) ?_
  intro a w' O hd hs hb hf hf2 ha hsame
  have hl := slots_eq (ops := spk_ops.toArray) [(56, .pointer (some ⟨g, 7, none⟩)), (57, .slice (some ⟨ga, oa, none⟩) m1 p.e), (58, .int .i64 i), (59, .pointer (some ⟨ga, oa + i * 8, none⟩)), (60, tmV qx x), (61, .pointer (some ⟨h, 7, none⟩)), (62, .slice (some ⟨gd, od, none⟩) m2 q.e), (63, .int .i64 i), (64, .pointer (some ⟨gd, od + i * 8, none⟩)), (65, tmV qy y), (66, .bool r), (67, .bool (!r))] (show a.tmps.size = 69 from hs) (fun i h => hsame i h) ⟨(hf 0 _ 56 rfl rfl (by decide)).1, (hf 1 _ 57 rfl rfl (by decide)).1, (hf 2 _ 58 rfl rfl (by decide)).1, (hf 3 _ 59 rfl rfl (by decide)).1, (hf 4 _ 60 rfl rfl (by decide)).1, (hf 5 _ 61 rfl rfl (by decide)).1, (hf 6 _ 62 rfl rfl (by decide)).1, (hf 7 _ 63 rfl rfl (by decide)).1, (hf 8 _ 64 rfl rfl (by decide)).1, (hf 9 _ 65 rfl rfl (by decide)).1, (hf 10 _ 66 rfl rfl (by decide)).1, (hf 11 _ 67 rfl rfl (by decide)).1, trivial⟩ (by kernel_rfl)
  obtain ⟨tmps, defers⟩ := a
  obtain rfl : defers = [] := hd
  have hl' : tmps = _ := hl
  rw [hl']
  have hb' := est2_chg hb
  refine Eq.mp ?_ (hend w' ⟨hb'.os, hb'.tape, hb'.output, hb'.size, hb'.block⟩)
  kernel_rfl

end Go.Proofs.Ytdboloabpjmgaaa

/-! SeW -/
namespace Go.Proofs.Ytdboloabpjmgaaa
open Go.RowKit Go.Proofs.YtdboloabpjmgaaaW.PrintWords Go.RegionInvYtdboloabpjmgaaa Go.RegionEYtdboloabpjmgaaa

theorem equal_at (A B : Option Addr) (c c' m m' : Nat) (k n k' n' : Int) (a b : Lv) (w : World) (hk : a.kind = k) (hn : a.num = n) (hm : a.kids.length = m) (hk' : b.kind = k') (hn' : b.num = n') (hm' : b.kids.length = m') (ha : LvIn w w.heap.size A c a) (hb : LvIn w w.heap.size B c' b) :
    Calls Try.prog 106 #[.agg #[.int .i64 k, .int .i64 n, .slice A m c], .agg #[.int .i64 k', .int .i64 n', .slice B m' c']] w fun e w' => e = .returned (.bool (eqP a b)) ∧ Below w.heap.size w w' := by
  subst hk hn hm hk' hn' hm'
  exact equal_calls A B c c' a b w ha hb
theorem lvsEq_len : ∀ {xs ys : List Lv}, xs.length ≠ ys.length → lvsEq xs ys = false
  | [], [], h => absurd rfl h
  | [], _ :: _, _ => rfl
  | _ :: _, [], _ => rfl
  | x :: r, y :: s, h => by
    show (eqP x y && lvsEq r s) = false
    rw [lvsEq_len (xs := r) (ys := s) (by simpa using h), Bool.and_false]
theorem lvsEq_cons (x y : Lv) (r s : List Lv) : lvsEq (x :: r) (y :: s) = (eqP x y && lvsEq r s) := rfl
theorem drop_lv {ks : List Lv} {i : Nat} {x : Lv} (h : ks[i]? = some x) : ks.drop i = x :: ks.drop (i + 1) := by
  obtain ⟨hl, rfl⟩ := List.getElem?_eq_some_iff.1 h
  exact List.drop_eq_getElem_cons hl
set_option maxRecDepth 100000 in
set_option maxHeartbeats 4000000 in
theorem eqf_calls (A B : Option Addr) (n m cA cB : Nat) (xs ys : List Lv) (w : World) (hx : LvIn w w.heap.size A cA (.mk 0 0 xs)) (hy : LvIn w w.heap.size B cB (.mk 0 0 ys)) (hn : xs.length = n) (hm : ys.length = m) :
    Calls Try.prog 107 #[.slice A n cA, .slice B m cB, .func (.func 106) #[] #[]] w fun e w' => e = .returned (.bool (lvsEq xs ys)) ∧ Below w.heap.size w w' := by
  have HX := Aside0.mk hx
  have HY := Aside0.mk hy
  have hlx := hx.len
  have hly := hy.len
  simp only [Lv.kids] at hlx hly
  rw [hn] at hlx
  rw [hm] at hly
  have HN := Aside0.mk hn
  have HM := Aside0.mk hm
  clear hx hy hn hm
  go_enter Try.func107, Try.ntmps107
  by_cases hnm : n = m
  · subst hnm
    have hb : ((n : Int) != (n : Int)) = false := by simp
    go_wp2
    go_loopw [17] (fun i wr => ∃ k : Nat, i = .int .i64 k ∧ k ≤ n ∧ Aside0 (lvsEq (xs.drop k) (ys.drop k) = lvsEq xs ys) ∧ Aside0 (Below w.heap.size w wr)) (fun i _ => n - (intOf i).toNat)
    case atStart => exact ⟨0, rfl, Nat.zero_le _, ⟨rfl⟩, ⟨Below.refl _ _⟩⟩
    case round =>
      obtain ⟨k, rfl, hk, HK, HB⟩ := hrel
      by_cases hlt : k < n
      · obtain ⟨x, hx⟩ : ∃ x, xs[k]? = some x := ⟨_, List.getElem?_eq_getElem (by rw [HN.out]; exact hlt)⟩
        obtain ⟨y, hy⟩ : ∃ y, ys[k]? = some y := ⟨_, List.getElem?_eq_getElem (by rw [HM.out]; exact hlt)⟩
        obtain ⟨A', c', hcs, hin⟩ := (LvIn.stay HX.out HB.out).kid k x hx
        obtain ⟨B', d', hct, hin2⟩ := (LvIn.stay HY.out HB.out).kid k y hy
        obtain ⟨ad, rfl, d1, d2, d3⟩ := hcs.facts
        obtain ⟨bd, rfl, f1, f2, f3⟩ := hct.facts
        have HDX := Aside0.mk (drop_lv hx)
        have HDY := Aside0.mk (drop_lv hy)
        have HXI := Aside0.mk hin.all
        have HYI := Aside0.mk hin2.all
        obtain ⟨xk, hxk⟩ : ∃ z, x.kind = z := ⟨_, rfl⟩
        obtain ⟨xn, hxn⟩ : ∃ z, x.num = z := ⟨_, rfl⟩
        obtain ⟨xm, hxm⟩ : ∃ z, x.kids.length = z := ⟨_, rfl⟩
        obtain ⟨yk, hyk⟩ : ∃ z, y.kind = z := ⟨_, rfl⟩
        obtain ⟨yn, hyn⟩ : ∃ z, y.num = z := ⟨_, rfl⟩
        obtain ⟨ym, hym⟩ : ∃ z, y.kids.length = z := ⟨_, rfl⟩
        rw [hxk] at d1; rw [hxn] at d2; rw [hxm] at d3
        rw [hyk] at f1; rw [hyn] at f2; rw [hym] at f3
        have HQ := Aside0.mk (And.intro hxk (And.intro hxn (And.intro hxm (And.intro hyk (And.intro hyn hym)))))
        have hce : ∀ (o : Obj) (p : Addr) (v : Value), wr.cell? p = some v → (wr.alloc o).cell? p = some v := fun o p v hv => ((below_alloc (Below.refl wr.heap.size wr) o).cell (World.block_lt_of_cell? wr _ hv)).trans hv
        have g1 := hce (.cells #[.int .i64 xk, .int .i64 xn, .slice A' xm c'] 25 (0, 0)) _ _ f1
        have g2 := hce (.cells #[.int .i64 xk, .int .i64 xn, .slice A' xm c'] 25 (0, 0)) _ _ f2
        have g3 := hce (.cells #[.int .i64 xk, .int .i64 xn, .slice A' xm c'] 25 (0, 0)) _ _ f3
        clear hcs hct hin hin2 hx hy hxk hxn hxm hyk hyn hym hce
        go_upto_region 6 with (fail)
        obtain ⟨W1, hW1⟩ : ∃ W1, W1 = wr.alloc (.cells #[.int .i64 xk, .int .i64 xn, .slice A' xm c'] 25 (0, 0)) := ⟨_, rfl⟩
        rw [← hW1] at g1 g2 g3
        have hb1 : Below wr.heap.size wr W1 := by rw [hW1]; exact below_alloc (Below.refl _ _) _
        have hx1 : W1.heap[wr.heap.size]? = some (.cells #[.int .i64 xk, .int .i64 xn, .slice A' xm c'] 25 (0, 0)) := by rw [hW1]; exact blk_new _ _
        rw [← hW1]
        clear hW1 d1 d2 d3 f1 f2 f3
        go_upto_region 7 with (fail)
        obtain ⟨W2, hW2⟩ : ∃ W2, W2 = W1.alloc (.cells #[.int .i64 yk, .int .i64 yn, .slice B' ym d'] 25 (0, 0)) := ⟨_, rfl⟩
        have hb2 : Below W1.heap.size W1 W2 := by rw [hW2]; exact below_alloc (Below.refl _ _) _
        have hx2 : W2.heap[wr.heap.size]? = some (.cells #[.int .i64 xk, .int .i64 xn, .slice A' xm c'] 25 (0, 0)) := (hb2.block _ (blk_lt hx1)).trans hx1
        have hy2 : W2.heap[W1.heap.size]? = some (.cells #[.int .i64 yk, .int .i64 yn, .slice B' ym d'] 25 (0, 0)) := by rw [hW2]; exact blk_new _ _
        have HB2 := Aside0.mk (below_then HB.out HB.out.size (below_then hb1 hb1.size hb2))
        have HXJ := Aside0.mk ((LvS.later HXI.out (below_then hb1 hb1.size hb2)).all)
        have HYJ := Aside0.mk ((LvS.later HYI.out (below_then hb1 hb1.size hb2)).all)
        obtain ⟨r0, r1, r2, -, -, -⟩ := row3 hx2
        obtain ⟨s0, s1, s2, -, -, -⟩ := row3 hy2
        rw [← hW2]
        clear hW2 hb1 hb2 hx1 hx2 hy2 g1 g2 g3
        have hcall := HQ.out
        have HCE := Aside0.mk (equal_at A' B' c' d' xm ym xk xn yk yn x y W2 hcall.1 hcall.2.1 hcall.2.2.1 hcall.2.2.2.1 hcall.2.2.2.2.1 hcall.2.2.2.2.2 HXJ.out HYJ.out)
        clear hcall
        cases he : eqP x y with
        | true =>
          have HV := Aside0.mk he
          have HK2 := Aside0.mk (show lvsEq (xs.drop (k + 1)) (ys.drop (k + 1)) = lvsEq xs ys by rw [← HK.out, HDX.out, HDY.out, lvsEq_cons, he, Bool.true_and])
          clear he
          go_wp2_with (go_at_call 106; go_must (refine HCE.out.mono ?_; rintro e w3 ⟨rfl, hb⟩; rw [HV.out]; have HB3 := Aside0.mk (below_then HB2.out HB2.out.size hb); clear hb))
          go_roundw
          case rel => exact ⟨k + 1, by go_num, by omega, HK2, HB3⟩
          case measure => (simp [intOf]; try omega)
        | false =>
          have HV := Aside0.mk he
          have HK2 := Aside0.mk (show lvsEq xs ys = false by rw [← HK.out, HDX.out, HDY.out, lvsEq_cons, he, Bool.false_and])
          clear he
          go_wp2_with (go_at_call 106; go_must (refine HCE.out.mono ?_; rintro e w3 ⟨rfl, hb⟩; rw [HV.out]; have HB3 := Aside0.mk (below_then HB2.out HB2.out.size hb); clear hb))
          go_ret
          rw [HK2.out]
          exact ⟨rfl, HB3.out⟩
      · obtain rfl : k = n := by omega
        have hlt' : decide ((k : Int) < k) = false := by simp
        have HZ := Aside0.mk (show lvsEq xs ys = true by rw [← HK.out, List.drop_of_length_le (by rw [HN.out]; exact Nat.le_refl _), List.drop_of_length_le (by rw [HM.out]; exact Nat.le_refl _)]; rfl)
        go_wp2
        go_ret
        rw [HZ.out]
        exact ⟨rfl, HB.out⟩
  · have hb : ((n : Int) != (m : Int)) = true := by simp; omega
    have HF := Aside0.mk (lvsEq_len (xs := xs) (ys := ys) (by rw [HN.out, HM.out]; exact hnm))
    clear hnm
    go_wp2
    go_ret
    rw [HF.out]
    exact ⟨rfl, Below.refl _ _⟩
theorem kind_leaf {t : Tm} (h : t.kind = 1 ∨ t.kind = 2 ∨ t.kind = 7) : nK t = 0 ∧ leafR t = false := by
  have ha : arZ t.kind = 0 := if_pos h
  refine ⟨?_, ?_⟩
  · unfold nK; rw [ha]; split <;> rfl
  · unfold leafR; rw [ha]; exact decide_eq_false (by omega)
theorem sm_kind {t u : Tm} (h : t.kind ≠ u.kind) : sameT t u = false := by rw [same_eq]; unfold hdB; rw [decide_eq_false h]; rfl
theorem leafR_leaf {t : Tm} (h : leafT t = true) (h1 : t.kind ≠ 1) (h2 : t.kind ≠ 2) (h7 : t.kind ≠ 7) : leafR t = true := by
  have h0 := leaf_nK h
  unfold leafR
  unfold nK at h0
  have ha : arZ t.kind ≠ 0 := by
    unfold arZ
    rw [if_neg (by omega)]
    split
    · omega
    · split <;> omega
  refine decide_eq_true ?_
  split at h0
  · exact .inr (by assumption)
  · exact .inl (by omega)
theorem sm_leaf {t u : Tm} (hk : t.kind = u.kind) (h : leafT t ≠ leafT u) : sameT t u = false := by
  have key : ∀ {a b : Tm}, a.kind = b.kind → leafT a = false → leafT b = true → leafR a = false ∧ leafR b = true := fun hk ha hb => by
    obtain ⟨k1, k2, k7⟩ := kind_node ha
    exact ⟨leafR_node ha, leafR_leaf hb (by rw [← hk]; exact k1) (by rw [← hk]; exact k2) (by rw [← hk]; exact k7)⟩
  rw [same_eq]
  unfold hdB
  cases ht : leafT t with
  | true =>
    cases hu : leafT u with
    | true => rw [ht, hu] at h; exact absurd rfl h
    | false => obtain ⟨e1, e2⟩ := key hk.symm hu ht; rw [e1, e2]; simp
  | false =>
    cases hu : leafT u with
    | true => obtain ⟨e1, e2⟩ := key hk ht hu; rw [e1, e2]; simp
    | false => rw [ht, hu] at h; exact absurd rfl h
theorem sm_var {t u : Tm} (hk : t.kind = u.kind) (k : t.kind = 1) : sameT t u = (t.num == u.num) := by
  obtain ⟨h1, h2⟩ := kind_leaf (t := t) (.inl k)
  obtain ⟨-, h3⟩ := kind_leaf (t := u) (.inl (by rw [← hk]; exact k))
  rw [same_leaf (leafT_of h1)]
  unfold hdB
  rw [decide_eq_true hk, h2, h3, if_pos k]
  rfl
theorem sm_sort {t u : Tm} (hk : t.kind = u.kind) (k : t.kind = 2) : sameT t u = eqP t.lv u.lv := by
  obtain ⟨h1, h2⟩ := kind_leaf (t := t) (.inr (.inl k))
  obtain ⟨-, h3⟩ := kind_leaf (t := u) (.inr (.inl (by rw [← hk]; exact k)))
  rw [same_leaf (leafT_of h1)]
  unfold hdB
  rw [decide_eq_true hk, h2, h3, if_neg (by omega), if_pos k]
  rfl
theorem sm_const {t u : Tm} (hk : t.kind = u.kind) (k : t.kind = 7) : sameT t u = ((t.name.toList == u.name.toList) && lvsEq t.ls u.ls) := by
  obtain ⟨h1, h2⟩ := kind_leaf (t := t) (.inr (.inr k))
  obtain ⟨-, h3⟩ := kind_leaf (t := u) (.inr (.inr (by rw [← hk]; exact k)))
  rw [same_leaf (leafT_of h1)]
  unfold hdB
  rw [decide_eq_true hk, h2, h3, if_neg (by omega), if_neg (by omega), if_pos k]
  simp
theorem sm_bare {t u : Tm} (hk : t.kind = u.kind) (h1 : t.kind ≠ 1) (h2 : t.kind ≠ 2) (h7 : t.kind ≠ 7) (ht : leafT t = true) (hu : leafT u = true) : sameT t u = true := by
  rw [same_leaf ht]
  unfold hdB
  rw [decide_eq_true hk, leafR_leaf ht h1 h2 h7, leafR_leaf hu (by rw [← hk]; exact h1) (by rw [← hk]; exact h2) (by rw [← hk]; exact h7)]
  rfl
def alls (t u : Tm) (xs : List (Fin (nK t))) : Bool := xs.all fun i => sameT (kidF t i) (u.kids.getD i.1 default)
theorem sm_node {t u : Tm} (hk : t.kind = u.kind) (ht : leafT t = false) (hu : leafT u = false) : sameT t u = alls t u (List.finRange (nK t)) := by
  rw [same_eq, hd_node ht hu hk, Bool.true_and]; rfl
theorem alls_cons (t u : Tm) (i : Fin (nK t)) (r : List (Fin (nK t))) : alls t u (i :: r) = (sameT (kidF t i) (u.kids.getD i.1 default) && alls t u r) := rfl
theorem nK_same {t u : Tm} (hk : t.kind = u.kind) (ht : leafT t = false) (hu : leafT u = false) : nK t = nK u := by
  have h1 := nK_ar (leaf_nK' ht)
  have h2 := nK_ar (leaf_nK' hu)
  rw [hk] at h1
  omega
theorem below_all {w W : World} {p : Pl} {t : Tm} (h : TmIn w w.heap.size p t) (hb : Below w.heap.size w W) : TmIn W W.heap.size p t := TmS.all (TmIn.stay h hb)
set_option maxRecDepth 100000 in
set_option maxHeartbeats 4000000 in
theorem tsame_calls (N : Nat) : ∀ (t : Tm), SizeOf.sizeOf t < N → ∀ (u : Tm) (p q : Pl) (w : World), TmIn w w.heap.size p t → TmIn w w.heap.size q u →
    Calls Try.prog 85 #[tmV p t, tmV q u] w fun e w' => e = .returned (.bool (sameT t u)) ∧ Below w.heap.size w w' := by
  induction N with
  | zero => intro t h; omega
  | succ N ih =>
    intro t hN u p q w hin hin2
    have IH := Aside0.mk ih
    have HNN := Aside0.mk hN
    have HIN := Aside0.mk hin
    have HIN2 := Aside0.mk hin2
    have hlt := hin.len
    have hlu := hin2.len
    have hlt9 : t.kids.length ≤ 9223372036854775807 := by omega
    have hlu9 : u.kids.length ≤ 9223372036854775807 := by omega
    have hfl := hin.ls.len
    have hfu := hin2.ls.len
    simp only [Lv.kids] at hfl hfu
    obtain ⟨W, hW⟩ : ∃ W, W = (w.alloc (tmO p t)).alloc (tmO q u) := ⟨_, rfl⟩
    have hb : Below w.heap.size w W := by rw [hW]; exact below_alloc (below_alloc (Below.refl _ _) _) _
    have HX := Aside0.mk (show W.heap[w.heap.size]? = some (tmO p t) by rw [hW]; exact box0 w _ _)
    have HY := Aside0.mk (show W.heap[w.heap.size + 1]? = some (tmO q u) by rw [hW]; exact box1 w _ _)
    have HB := Aside0.mk hb
    clear ih hN hin hin2 hb
    unfold tmV
    unfold tmO at hW
    go_enter Try.func85, Try.ntmps85
    go_upto_region 1 with (fail)
    rw [← hW]
    clear hW
    by_cases hkk : t.kind = u.kind
    · obtain ⟨la, hla⟩ : ∃ x, leafT t = x := ⟨_, rfl⟩
      obtain ⟨lb, hlb⟩ : ∃ x, leafT u = x := ⟨_, rfl⟩
      by_cases hll : la = lb
      · refine spy_region W w.heap.size (w.heap.size + 1) p q t u la lb false HX.out HY.out hkk hla hlb (by simp [hll]) ?_
        intro w1 hch
        have hb1 : Below W.heap.size W w1 := hch.below (fun _ h => h.elim False.elim False.elim) (Nat.le_refl _)
        have HB1 := Aside0.mk (below_then HB.out HB.out.size hb1)
        have HX1 := Aside0.mk ((hb1.block _ (blk_lt HX.out)).trans HX.out)
        have HY1 := Aside0.mk ((hb1.block _ (blk_lt HY.out)).trans HY.out)
        have HKK := Aside0.mk hkk
        have HLA := Aside0.mk hla
        have HLB := Aside0.mk hlb
        clear hch hb1 hkk hla hlb HX HY
        subst hll
        obtain ⟨p0, p1, p2, p3, p4, p5, p6, p7⟩ := row8 HX1.out
        obtain ⟨q0, q1, q2, q3, q4, q5, q6, q7⟩ := row8 HY1.out
        by_cases k1 : t.kind = 1
        · have b1 : (t.kind == 1) = true := by simp [k1]
          have HE := Aside0.mk (sm_var HKK.out k1)
          clear k1
          go_wp2
          go_ret
          rw [HE.out]
          exact ⟨rfl, HB1.out⟩
        · have b1 : (t.kind == 1) = false := by simp [k1]
          by_cases k2 : t.kind = 2
          · have b2 : (t.kind == 2) = true := by simp [k2]
            have HE := Aside0.mk (sm_sort HKK.out k2)
            clear k1 k2
            go_wp2_with (go_at_call 106; go_must (refine (equal_at p.A q.A p.c q.c _ _ _ _ _ _ t.lv u.lv w1 rfl rfl rfl rfl rfl rfl (below_all HIN.out HB1.out).lv.all (below_all HIN2.out HB1.out).lv.all).mono ?_; rintro e w2 ⟨rfl, hb⟩; have HB2 := Aside0.mk (below_then HB1.out HB1.out.size hb); clear hb))
            go_ret
            rw [HE.out]
            exact ⟨rfl, HB2.out⟩
          · have b2 : (t.kind == 2) = false := by simp [k2]
            by_cases k7 : t.kind = 7
            · have b7 : (t.kind == 7) = true := by simp [k7]
              have HE := Aside0.mk (sm_const HKK.out k7)
              clear k1 k2 k7
              cases hn : (t.name.toList == u.name.toList) with
              | true =>
                have HE2 := Aside0.mk (show sameT t u = lvsEq t.ls u.ls by rw [HE.out, hn, Bool.true_and])
                go_wp2_with (go_at_call 107; go_must (refine (eqf_calls p.B q.B _ _ p.d q.d t.ls u.ls w1 (below_all HIN.out HB1.out).ls.all (below_all HIN2.out HB1.out).ls.all rfl rfl).mono ?_; rintro e w2 ⟨rfl, hb⟩; have HB2 := Aside0.mk (below_then HB1.out HB1.out.size hb); clear hb))
                go_ret
                rw [HE2.out]
                exact ⟨rfl, HB2.out⟩
              | false =>
                have HE2 := Aside0.mk (show sameT t u = false by rw [HE.out, hn, Bool.false_and])
                go_wp2
                go_ret
                rw [HE2.out]
                exact ⟨rfl, HB1.out⟩
            · have b7 : (t.kind == 7) = false := by simp [k7]
              have HKN := Aside0.mk (And.intro k1 (And.intro k2 k7))
              clear k1 k2 k7
              cases la with
              | true =>
                have HE := Aside0.mk (sm_bare HKK.out HKN.out.1 HKN.out.2.1 HKN.out.2.2 HLA.out HLB.out)
                go_wp2_with (first
                  | (refine wpList_load_row rfl 28 _ rfl (w.heap.size) rfl 28 _ (0, 0) _ HX1.out Try.underlying28 rfl (by kernel_rfl) ?_)
                  | (go_at_call 75; go_must (refine (leaf_calls t p w1).mono ?_; rintro e w2 ⟨rfl, hb⟩; rw [HLA.out]; have HB2 := Aside0.mk (below_then HB1.out HB1.out.size hb); clear hb)))
                go_ret
                rw [HE.out]
                exact ⟨rfl, HB2.out⟩
              | false =>
                have HE := Aside0.mk (sm_node HKK.out HLA.out HLB.out)
                go_upto_region 12 with (first
                  | (refine wpList_load_row rfl 28 _ rfl (w.heap.size) rfl 28 _ (0, 0) _ HX1.out Try.underlying28 rfl (by kernel_rfl) ?_)
                  | (go_at_call 75; go_must (refine (leaf_calls t p w1).mono ?_; rintro e w2 ⟨rfl, hb⟩; rw [HLA.out]; have HB2 := Aside0.mk (below_then HB1.out HB1.out.size hb); have HX2 := Aside0.mk ((hb.block _ (blk_lt HX1.out)).trans HX1.out); have HY2 := Aside0.mk ((hb.block _ (blk_lt HY1.out)).trans HY1.out); have c0 := (row8 HX2.out).1; clear hb)))
                obtain ⟨ar, har⟩ : ∃ x, nK t = x := ⟨_, rfl⟩
                have HAR := Aside0.mk har
                have hnk := nK_ar (leaf_nK' HLA.out)
                have HAC := Aside0.mk (show ∀ w, Calls Try.prog 104 #[.int .i64 t.kind] w fun e w' => e = .returned (.int .i64 (ar : Int)) ∧ w' = w from fun w => by rw [← har, hnk]; exact tar_calls _ _)
                have har3 : ar ≤ 3 := by rw [← har]; exact nK_le3 t
                have hart : ar ≤ t.kids.length := by rw [← har]; exact nK_le t
                have haru : ar ≤ u.kids.length := by rw [← har, nK_same HKK.out HLA.out HLB.out]; exact nK_le u
                clear har hnk p0 p1 p2 p3 p4 p5 p6 p7 q0 q1 q2 q3 q4 q5 q6 q7
                go_wp2_with (go_at_call 104; go_must (refine (HAC.out _).mono ?_; rintro e w3 ⟨rfl, h3⟩; have h3 := h3.symm; subst h3))
                clear c0
                go_loopw [53] (fun i wr => ∃ k : Nat, i = .int .i64 k ∧ k ≤ ar ∧ Aside0 (alls t u ((List.finRange (nK t)).drop k) = sameT t u) ∧ Aside0 (Below w2.heap.size w2 wr)) (fun i _ => ar - (intOf i).toNat)
                case atStart => exact ⟨0, rfl, Nat.zero_le _, ⟨by rw [List.drop_zero]; exact HE.out.symm⟩, ⟨Below.refl _ _⟩⟩
                case round =>
                  obtain ⟨k, rfl, hk, HK, HBR⟩ := hrel
                  by_cases hlk : k < ar
                  · have hkn : k < nK t := by rw [HAR.out]; exact hlk
                    have hkm : k < nK u := by rw [← nK_same HKK.out HLA.out HLB.out]; exact hkn
                    have HDF := Aside0.mk (drop_fin hkn)
                    have HBA := Aside0.mk (below_then HB2.out HB2.out.size HBR.out)
                    obtain ⟨qq, hqq⟩ := (TmIn.stay HIN.out HBA.out).kid
                    obtain ⟨qr, hqr⟩ := (TmIn.stay HIN2.out HBA.out).kid
                    obtain ⟨⟨ga, oa, hpK, hga, hca⟩, hxin⟩ := hqq k _ (kidF_get t ⟨k, hkn⟩)
                    obtain ⟨⟨gd, od, hqK, hgd, hcb⟩, hyin⟩ := hqr k _ (kidF_get u ⟨k, hkm⟩)
                    have HGD := Aside0.mk (show u.kids.getD k default = kidF u ⟨k, hkm⟩ by rw [List.getD_eq_getElem?_getD, kidF_get u ⟨k, hkm⟩]; rfl)
                    have HAL := Aside0.mk (alls_cons t u ⟨k, hkn⟩ ((List.finRange (nK t)).drop (k + 1)))
                    have HXL := Aside0.mk (kidF_lt t ⟨k, hkn⟩)
                    obtain ⟨x, hxe⟩ : ∃ x, kidF t ⟨k, hkn⟩ = x := ⟨_, rfl⟩
                    obtain ⟨y, hye⟩ : ∃ y, kidF u ⟨k, hkm⟩ = y := ⟨_, rfl⟩
                    rw [hxe] at hca hxin HAL HXL
                    rw [hye] at hcb hyin HGD
                    rw [HGD.out] at HAL
                    have HXI := Aside0.mk (TmS.all hxin)
                    have HYI := Aside0.mk (TmS.all hyin)
                    have HXR := Aside0.mk ((HBR.out.block _ (blk_lt HX2.out)).trans HX2.out)
                    have HYR := Aside0.mk ((HBR.out.block _ (blk_lt HY2.out)).trans HY2.out)
                    obtain ⟨r, hr⟩ : ∃ r, sameT x y = r := ⟨_, rfl⟩
                    have HR := Aside0.mk hr
                    have hzr := HBA.out.size
                    have ca := fun (j : Nat) (v : Value) (h : (tmC (qq k) x)[j]? = some v) => hca j v h
                    have cb := fun (j : Nat) (v : Value) (h : (tmC (qr k) y)[j]? = some v) => hcb j v h
                    go_upto_region 15 with (fail)
                    refine spk_region wr w.heap.size (w.heap.size + 1) k p q t u ga oa gd od t.kids.length u.kids.length (qq k) (qr k) x y r HXR.out HYR.out hpK hqK rfl rfl (by omega) (by omega) (by omega) (by omega) hlt9 hlu9 (by omega)
                      (ca 0 _ rfl) (ca 1 _ rfl) (ca 2 _ rfl) (ca 3 _ rfl) (ca 4 _ rfl) (ca 5 _ rfl) (ca 6 _ rfl) (ca 7 _ rfl) (cb 0 _ rfl) (cb 1 _ rfl) (cb 2 _ rfl) (cb 3 _ rfl) (cb 4 _ rfl) (cb 5 _ rfl) (cb 6 _ rfl) (cb 7 _ rfl)
                      (fun w9 hb9 => by rw [← hr]; exact IH.out x (by have := HXL.out; have := HNN.out; omega) y (qq k) (qr k) w9 (below_all HXI.out hb9) (below_all HYI.out hb9)) ?_
                    intro w5 hch
                    have HB5 := Aside0.mk (below_then HBR.out HBR.out.size (hch.below (fun _ h => h.elim False.elim False.elim) (Nat.le_refl _)))
                    clear hch hca hcb hxin hyin hpK hqK hga hgd hqq hqr hxe hye ca cb hr
                    cases r with
                    | true =>
                      have HK2 := Aside0.mk (show alls t u ((List.finRange (nK t)).drop (k + 1)) = sameT t u by rw [← HK.out, HDF.out, HAL.out, HR.out, Bool.true_and])
                      go_wp2
                      go_roundw
                      case rel => exact ⟨k + 1, by go_num, by omega, HK2, HB5⟩
                      case measure => (simp [intOf]; try omega)
                    | false =>
                      have HK2 := Aside0.mk (show sameT t u = false by rw [← HK.out, HDF.out, HAL.out, HR.out, Bool.false_and])
                      have HFN := Aside0.mk (below_then HB2.out HB2.out.size HB5.out)
                      go_wp2
                      go_ret
                      rw [HK2.out]
                      exact ⟨rfl, HFN.out⟩
                  · obtain rfl : k = ar := by omega
                    have hlt' : decide ((k : Int) < k) = false := by simp
                    have HZ := Aside0.mk (show sameT t u = true by rw [← HK.out, List.drop_of_length_le (by rw [List.length_finRange, HAR.out]; exact Nat.le_refl _)]; rfl)
                    have HFN := Aside0.mk (below_then HB2.out HB2.out.size HBR.out)
                    go_wp2
                    go_ret
                    rw [HZ.out]
                    exact ⟨rfl, HFN.out⟩
      · refine spy_region W w.heap.size (w.heap.size + 1) p q t u la lb true HX.out HY.out hkk hla hlb (by simp [hll]) ?_
        intro w1 hch
        have hb1 : Below W.heap.size W w1 := hch.below (fun _ h => h.elim False.elim False.elim) (Nat.le_refl _)
        have HB1 := Aside0.mk (below_then HB.out HB.out.size hb1)
        have HX1 := Aside0.mk ((hb1.block _ (blk_lt HX.out)).trans HX.out)
        have HY1 := Aside0.mk ((hb1.block _ (blk_lt HY.out)).trans HY.out)
        have HKK := Aside0.mk hkk
        have HLA := Aside0.mk hla
        have HLB := Aside0.mk hlb
        clear hch hb1 hkk hla hlb HX HY
        have HE := Aside0.mk (sm_leaf HKK.out (by rw [HLA.out, HLB.out]; exact hll))
        clear hll
        go_wp2
        go_ret
        rw [HE.out]
        exact ⟨rfl, HB1.out⟩
    · refine spn_region W w.heap.size (w.heap.size + 1) p q t u HX.out HY.out hkk ?_
      intro w1 hch
      have HB1 := Aside0.mk (below_then HB.out HB.out.size (hch.below (fun _ h => h.elim False.elim False.elim) (Nat.le_refl _)))
      have HE := Aside0.mk (sm_kind hkk)
      clear hch hkk
      go_wp2
      go_ret
      rw [HE.out]
      exact ⟨rfl, HB1.out⟩
set_option maxRecDepth 100000 in
set_option maxHeartbeats 4000000 in
theorem tSame_calls (t u : Tm) (p q : Pl) (w : World) (hin : TmIn w w.heap.size p t) (hin2 : TmIn w w.heap.size q u) :
    Calls Try.prog 48 #[tmV p t, tmV q u] w fun e w' => e = .returned (.bool (SameT t u)) ∧ Below w.heap.size w w' := by
  have HIN := Aside0.mk hin
  have HIN2 := Aside0.mk hin2
  obtain ⟨W, hW⟩ : ∃ W, W = (w.alloc (tmO p t)).alloc (tmO q u) := ⟨_, rfl⟩
  have hb : Below w.heap.size w W := by rw [hW]; exact below_alloc (below_alloc (Below.refl _ _) _) _
  have HX := Aside0.mk (show W.heap[w.heap.size]? = some (tmO p t) by rw [hW]; exact box0 w _ _)
  have HY := Aside0.mk (show W.heap[w.heap.size + 1]? = some (tmO q u) by rw [hW]; exact box1 w _ _)
  have HB := Aside0.mk hb
  clear hin hin2 hb
  unfold tmV
  unfold tmO at hW
  go_enter Try.func48, Try.ntmps48
  go_upto_region 1 with (fail)
  rw [← hW]
  clear hW
  by_cases h1 : okT t
  · have HG1 := Aside0.mk (show greatB t = false by rw [great_eq]; simp [h1])
    by_cases h2 : okT u
    · have HG2 := Aside0.mk (show greatB u = false by rw [great_eq]; simp [h2])
      have HE := Aside0.mk (show SameT t u = sameT t u by unfold SameT; rw [decide_eq_true h1, decide_eq_true h2]; rfl)
      clear h1 h2
      go_wp2_with (first
        | (refine wpList_load_row rfl 28 _ rfl (w.heap.size) rfl 28 _ (0, 0) _ HX.out Try.underlying28 rfl (by kernel_rfl) ?_)
        | (go_at_call 85; go_must (refine (tsame_calls _ t (Nat.lt_succ_self _) u p q w2 (below_all HIN.out HB2.out) (below_all HIN2.out HB2.out)).mono ?_; rintro e w3 ⟨rfl, hb⟩; have HB3 := Aside0.mk (below_then HB2.out HB2.out.size hb); clear hb))
        | (have hgd := HB1; clear hgd; go_at_call 55; go_must (refine (great_calls u q w1 (below_all HIN2.out HB1.out)).mono ?_; rintro e w2 ⟨rfl, hb⟩; rw [HG2.out]; have HB2 := Aside0.mk (below_then HB1.out HB1.out.size hb); have HX2 := Aside0.mk ((hb.block _ (blk_lt HX1.out)).trans HX1.out); have HY2 := Aside0.mk ((hb.block _ (blk_lt HY1.out)).trans HY1.out); obtain ⟨a0, a1, a2, a3, a4, a5, a6, a7⟩ := row8 HX2.out; obtain ⟨z0, z1, z2, z3, z4, z5, z6, z7⟩ := row8 HY2.out; clear hb))
        | (go_at_call 55; go_must (refine (great_calls t p W (below_all HIN.out HB.out)).mono ?_; rintro e w1 ⟨rfl, hb⟩; rw [HG1.out]; have HB1 := Aside0.mk (below_then HB.out HB.out.size hb); have HX1 := Aside0.mk ((hb.block _ (blk_lt HX.out)).trans HX.out); have HY1 := Aside0.mk ((hb.block _ (blk_lt HY.out)).trans HY.out); obtain ⟨y0, y1, y2, y3, y4, y5, y6, y7⟩ := row8 HY1.out; clear hb)))
      go_ret
      rw [HE.out]
      exact ⟨rfl, HB3.out⟩
    · have HG2 := Aside0.mk (show greatB u = true by rw [great_eq]; simp [h2])
      have HE := Aside0.mk (show SameT t u = false by unfold SameT; rw [decide_eq_true h1, decide_eq_false h2]; rfl)
      clear h1 h2
      go_wp2_with (first
        | (refine wpList_load_row rfl 28 _ rfl (w.heap.size) rfl 28 _ (0, 0) _ HX.out Try.underlying28 rfl (by kernel_rfl) ?_)
        | (have hgd := HB1; clear hgd; go_at_call 55; go_must (refine (great_calls u q w1 (below_all HIN2.out HB1.out)).mono ?_; rintro e w2 ⟨rfl, hb⟩; rw [HG2.out]; have HB2 := Aside0.mk (below_then HB1.out HB1.out.size hb); have HX2 := Aside0.mk ((hb.block _ (blk_lt HX1.out)).trans HX1.out); have HY2 := Aside0.mk ((hb.block _ (blk_lt HY1.out)).trans HY1.out); obtain ⟨a0, a1, a2, a3, a4, a5, a6, a7⟩ := row8 HX2.out; obtain ⟨z0, z1, z2, z3, z4, z5, z6, z7⟩ := row8 HY2.out; clear hb))
        | (go_at_call 55; go_must (refine (great_calls t p W (below_all HIN.out HB.out)).mono ?_; rintro e w1 ⟨rfl, hb⟩; rw [HG1.out]; have HB1 := Aside0.mk (below_then HB.out HB.out.size hb); have HX1 := Aside0.mk ((hb.block _ (blk_lt HX.out)).trans HX.out); have HY1 := Aside0.mk ((hb.block _ (blk_lt HY.out)).trans HY.out); obtain ⟨y0, y1, y2, y3, y4, y5, y6, y7⟩ := row8 HY1.out; clear hb)))
      go_ret
      rw [HE.out]
      exact ⟨rfl, HB2.out⟩
  · have HG1 := Aside0.mk (show greatB t = true by rw [great_eq]; simp [h1])
    have HE := Aside0.mk (show SameT t u = false by unfold SameT; rw [decide_eq_false h1]; rfl)
    clear h1
    go_wp2_with (first
      | (refine wpList_load_row rfl 28 _ rfl (w.heap.size) rfl 28 _ (0, 0) _ HX.out Try.underlying28 rfl (by kernel_rfl) ?_)
      | (go_at_call 55; go_must (refine (great_calls t p W (below_all HIN.out HB.out)).mono ?_; rintro e w1 ⟨rfl, hb⟩; rw [HG1.out]; have HB1 := Aside0.mk (below_then HB.out HB.out.size hb); have HX1 := Aside0.mk ((hb.block _ (blk_lt HX.out)).trans HX.out); have HY1 := Aside0.mk ((hb.block _ (blk_lt HY.out)).trans HY.out); obtain ⟨y0, y1, y2, y3, y4, y5, y6, y7⟩ := row8 HY1.out; clear hb)))
    go_ret
    rw [HE.out]
    exact ⟨rfl, HB1.out⟩
end Go.Proofs.Ytdboloabpjmgaaa

/-! TPuR -/
namespace Go.Proofs.Ytdboloabpjmgaaa
open Go.RowKit Go.Proofs.YtdboloabpjmgaaaW.PrintWords Go.RegionInvYtdboloabpjmgaaa Go.RegionEYtdboloabpjmgaaa
set_option linter.unusedVariables false

def tp1n_ops : List Oper := [
  { dst := some 10, op := Go.Op.load 28 (Go.Operand.tmp 3), type := 28, pos := "law.go:161", after := #[], guard := none },
  { dst := some 11, op := Go.Op.load 28 (Go.Operand.tmp 4), type := 28, pos := "law.go:161", after := #[], guard := none },
  { dst := some 12, op := Go.Op.load 28 (Go.Operand.tmp 5), type := 28, pos := "law.go:161", after := #[], guard := none },
  { dst := some 13, op := Go.Op.buildSlice 26 3 #[(0, Go.Operand.tmp 10), (1, Go.Operand.tmp 11), (2, Go.Operand.tmp 12)], type := 26, pos := "law.go:161", after := #[{ on := 0, ground := Go.Ground.data }, { on := 1, ground := Go.Ground.data }, { on := 2, ground := Go.Ground.data }], guard := none },
  { dst := some 14, op := Go.Op.call { callee := Go.Callee.value (Go.Operand.func 36), args := #[Go.Operand.tmp 13], argTypes := #[26] }, type := 4, pos := "law.go:161", after := #[{ on := 3, ground := Go.Ground.data }], guard := none },
  { dst := some 15, op := Go.Op.unOp Go.UnOp.not 4 (Go.Operand.tmp 14), type := 4, pos := "law.go:161", after := #[{ on := 4, ground := Go.Ground.data }], guard := none },
  { dst := some 16, op := Go.Op.move (Go.Operand.tmp 15), type := 4, pos := "law.go:161", after := #[{ on := 5, ground := Go.Ground.data }, { on := 4, ground := Go.Ground.chain }], guard := none },
  { dst := some 17, op := Go.Op.load 28 (Go.Operand.tmp 3), type := 28, pos := "law.go:161", after := #[{ on := 6, ground := Go.Ground.guard }], guard := some (6, false) },
  { dst := some 18, op := Go.Op.call { callee := Go.Callee.value (Go.Operand.func 21), args := #[Go.Operand.tmp 17], argTypes := #[28] }, type := 3, pos := "law.go:161", after := #[{ on := 7, ground := Go.Ground.data }, { on := 6, ground := Go.Ground.chain }, { on := 6, ground := Go.Ground.guard }], guard := some (6, false) },
  { dst := some 19, op := Go.Op.load 28 (Go.Operand.tmp 4), type := 28, pos := "law.go:161", after := #[{ on := 6, ground := Go.Ground.guard }], guard := some (6, false) },
  { dst := some 20, op := Go.Op.call { callee := Go.Callee.value (Go.Operand.func 21), args := #[Go.Operand.tmp 19], argTypes := #[28] }, type := 3, pos := "law.go:161", after := #[{ on := 9, ground := Go.Ground.data }, { on := 8, ground := Go.Ground.chain }, { on := 6, ground := Go.Ground.guard }], guard := some (6, false) },
  { dst := some 21, op := Go.Op.binOp Go.BinOp.mul 3 (Go.Operand.tmp 18) (Go.Operand.tmp 20) 3, type := 3, pos := "law.go:161", after := #[{ on := 8, ground := Go.Ground.data }, { on := 10, ground := Go.Ground.data }, { on := 6, ground := Go.Ground.guard }], guard := some (6, false) },
  { dst := some 22, op := Go.Op.binOp Go.BinOp.gtr 3 (Go.Operand.tmp 21) (Go.Operand.const (Go.Value.int Go.IntKind.i64 15000)) 3, type := 4, pos := "law.go:161", after := #[{ on := 11, ground := Go.Ground.data }, { on := 6, ground := Go.Ground.guard }], guard := some (6, false) },
  { dst := some 23, op := Go.Op.pick (Go.Operand.tmp 16) (Go.Operand.const (Go.Value.bool true)) (Go.Operand.tmp 22), type := 4, pos := "law.go:161", after := #[{ on := 6, ground := Go.Ground.data }, { on := 12, ground := Go.Ground.data }], guard := none },
  { dst := some 24, op := Go.Op.move (Go.Operand.tmp 23), type := 4, pos := "law.go:161", after := #[{ on := 13, ground := Go.Ground.data }, { on := 10, ground := Go.Ground.chain }], guard := none },
  { dst := some 25, op := Go.Op.load 28 (Go.Operand.tmp 3), type := 28, pos := "law.go:161", after := #[{ on := 14, ground := Go.Ground.guard }], guard := some (14, false) },
  { dst := some 26, op := Go.Op.call { callee := Go.Callee.value (Go.Operand.func 21), args := #[Go.Operand.tmp 25], argTypes := #[28] }, type := 3, pos := "law.go:161", after := #[{ on := 15, ground := Go.Ground.data }, { on := 14, ground := Go.Ground.chain }, { on := 14, ground := Go.Ground.guard }], guard := some (14, false) },
  { dst := some 27, op := Go.Op.load 28 (Go.Operand.tmp 4), type := 28, pos := "law.go:161", after := #[{ on := 14, ground := Go.Ground.guard }], guard := some (14, false) },
  { dst := some 28, op := Go.Op.call { callee := Go.Callee.value (Go.Operand.func 21), args := #[Go.Operand.tmp 27], argTypes := #[28] }, type := 3, pos := "law.go:161", after := #[{ on := 17, ground := Go.Ground.data }, { on := 16, ground := Go.Ground.chain }, { on := 14, ground := Go.Ground.guard }], guard := some (14, false) },
  { dst := some 29, op := Go.Op.binOp Go.BinOp.mul 3 (Go.Operand.tmp 26) (Go.Operand.tmp 28) 3, type := 3, pos := "law.go:161", after := #[{ on := 16, ground := Go.Ground.data }, { on := 18, ground := Go.Ground.data }, { on := 14, ground := Go.Ground.guard }], guard := some (14, false) },
  { dst := some 30, op := Go.Op.load 28 (Go.Operand.tmp 5), type := 28, pos := "law.go:161", after := #[{ on := 14, ground := Go.Ground.guard }], guard := some (14, false) },
  { dst := some 31, op := Go.Op.call { callee := Go.Callee.value (Go.Operand.func 21), args := #[Go.Operand.tmp 30], argTypes := #[28] }, type := 3, pos := "law.go:161", after := #[{ on := 20, ground := Go.Ground.data }, { on := 18, ground := Go.Ground.chain }, { on := 14, ground := Go.Ground.guard }], guard := some (14, false) },
  { dst := some 32, op := Go.Op.binOp Go.BinOp.mul 3 (Go.Operand.tmp 29) (Go.Operand.tmp 31) 3, type := 3, pos := "law.go:161", after := #[{ on := 19, ground := Go.Ground.data }, { on := 21, ground := Go.Ground.data }, { on := 14, ground := Go.Ground.guard }], guard := some (14, false) },
  { dst := some 33, op := Go.Op.binOp Go.BinOp.gtr 3 (Go.Operand.tmp 32) (Go.Operand.const (Go.Value.int Go.IntKind.i64 15000)) 3, type := 4, pos := "law.go:161", after := #[{ on := 22, ground := Go.Ground.data }, { on := 14, ground := Go.Ground.guard }], guard := some (14, false) },
  { dst := some 34, op := Go.Op.pick (Go.Operand.tmp 24) (Go.Operand.const (Go.Value.bool true)) (Go.Operand.tmp 33), type := 4, pos := "law.go:161", after := #[{ on := 14, ground := Go.Ground.data }, { on := 23, ground := Go.Ground.data }], guard := none }]
def tp1n_F (w0 : World) (B : Nat) (gt : Nat) (pt : Pl) (tt : Tm) (gu : Nat) (pu : Pl) (tu : Tm) (gv : Nat) (pv : Pl) (tv : Tm) : Nat → (Nat → Value) → Value → World → (Nat → Prop) → Prop := fun rix => match rix with
  | 0 => fun _ v _ _ => v = tmV pt tt
  | 1 => fun _ v _ _ => v = tmV pu tu
  | 2 => fun _ v _ _ => v = tmV pv tv
  | 3 => fun τ v w O => ∃ p, v = .slice (some ⟨p, 0, none⟩) 3 3 ∧ w.heap[p]? = some (.cells (tmC pt tt ++ tmC pu tu ++ tmC pv tv).toArray 28 (0, 0)) ∧ O p
  | 4 => fun _ v _ _ => v = .bool false
  | 5 => fun _ v _ _ => v = .bool true
  | 6 => fun _ v _ _ => v = .bool true
  | 7 => fun _ v _ _ => v = undef
  | 8 => fun _ v _ _ => v = undef
  | 9 => fun _ v _ _ => v = undef
  | 10 => fun _ v _ _ => v = undef
  | 11 => fun _ v _ _ => v = undef
  | 12 => fun _ v _ _ => v = undef
  | 13 => fun _ v _ _ => v = .bool true
  | 14 => fun _ v _ _ => v = .bool true
  | 15 => fun _ v _ _ => v = undef
  | 16 => fun _ v _ _ => v = undef
  | 17 => fun _ v _ _ => v = undef
  | 18 => fun _ v _ _ => v = undef
  | 19 => fun _ v _ _ => v = undef
  | 20 => fun _ v _ _ => v = undef
  | 21 => fun _ v _ _ => v = undef
  | 22 => fun _ v _ _ => v = undef
  | 23 => fun _ v _ _ => v = undef
  | 24 => fun _ v _ _ => v = .bool true
  | _ => fun _ _ _ _ => True
def tp1n_C : Nat → List Nat := fun rix => match rix with
  | _ => []
theorem tp1n_nw3 : nwB tp1n_ops.toArray 3 = true := by kernel_rfl
theorem tp1n_nw4 : nwB tp1n_ops.toArray 4 = true := by kernel_rfl
theorem tp1n_nw5 : nwB tp1n_ops.toArray 5 = true := by kernel_rfl
set_option maxRecDepth 100000 in
set_option maxHeartbeats 8000000 in
theorem tp1n_obs (w0 : World) (B : Nat) (gt : Nat) (pt : Pl) (tt : Tm) (gu : Nat) (pu : Pl) (tu : Tm) (gv : Nat) (pv : Pl) (tv : Tm) (hB : B ≤ w0.heap.size) (hx3 : w0.heap[gt]? = some (tmO pt tt)) (hin3 : TmIn w0 B pt tt) (hx4 : w0.heap[gu]? = some (tmO pu tu)) (hin4 : TmIn w0 B pu tu) (hx5 : w0.heap[gv]? = some (tmO pv tv)) (hin5 : TmIn w0 B pv tv) (hwb : wholeB [tt, tu, tv] = false) (Q : Exit → Act → World → Prop) (a0 : Act) (hi3 : a0.tmps.getD 3 undef = .pointer (some ⟨gt, 0, none⟩)) (hi4 : a0.tmps.getD 4 undef = .pointer (some ⟨gu, 0, none⟩)) (hi5 : a0.tmps.getD 5 undef = .pointer (some ⟨gv, 0, none⟩)) :
    ObsE Try.prog tp1n_ops.toArray Q (est2 0 0 (fun _ => False) (fun _ => False)) tp1n_C (tp1n_F w0 B gt pt tt gu pu tu gv pv tv) a0 w0 tp1n_ops.toArray.toList 0 := by
  have nw3 := tp1n_nw3
  have nw4 := tp1n_nw4
  have nw5 := tp1n_nw5
  refine ⟨?_, ?_, ?_, ?_, ?_, ?_, ?_, ?_, ?_, ?_, ?_, ?_, ?_, ?_, ?_, ?_, ?_, ?_, ?_, ?_, ?_, ?_, ?_, ?_, ?_, trivial⟩
  · refine ⟨⟨fun τ => stableE_det _, leans_not⟩, ?_⟩
    intro a w O hk
    have e3 : a.eval (.tmp 3) = .pointer (some ⟨gt, 0, none⟩) := (hk.init 3 (initialB_of_nw nw3)).trans hi3
    have x3 := hk.world.still hx3 (fun ⟨_, h⟩ => h.elim And.right And.right)
    have x4 := hk.world.still hx4 (fun ⟨_, h⟩ => h.elim And.right And.right)
    have x5 := hk.world.still hx5 (fun ⟨_, h⟩ => h.elim And.right And.right)
    have hfx : ∀ k, k < B → w.heap[k]? = w0.heap[k]? := fun k hk' => hk.fix k ((fun k hk' => est2_fix (Nat.lt_of_lt_of_le hk' hB) (fun e => e.elim) (fun e => e.elim)) k hk')
    have hsz := hk.world.size
    have y3 := hin3.same (w' := w) (fun k hk' _ => hfx k hk')
    have y4 := hin4.same (w' := w) (fun k hk' _ => hfx k hk')
    have y5 := hin5.same (w' := w) (fun k hk' _ => hfx k hk')
    exact obE_loadRow rfl e3 x3 Try.underlying28 rfl (by kernel_rfl) (wanted_none rfl) rfl
  · refine ⟨⟨fun τ => stableE_det _, leans_not⟩, ?_⟩
    intro a w O hk
    have e4 : a.eval (.tmp 4) = .pointer (some ⟨gu, 0, none⟩) := (hk.init 4 (initialB_of_nw nw4)).trans hi4
    have x3 := hk.world.still hx3 (fun ⟨_, h⟩ => h.elim And.right And.right)
    have x4 := hk.world.still hx4 (fun ⟨_, h⟩ => h.elim And.right And.right)
    have x5 := hk.world.still hx5 (fun ⟨_, h⟩ => h.elim And.right And.right)
    have hfx : ∀ k, k < B → w.heap[k]? = w0.heap[k]? := fun k hk' => hk.fix k ((fun k hk' => est2_fix (Nat.lt_of_lt_of_le hk' hB) (fun e => e.elim) (fun e => e.elim)) k hk')
    have hsz := hk.world.size
    have y3 := hin3.same (w' := w) (fun k hk' _ => hfx k hk')
    have y4 := hin4.same (w' := w) (fun k hk' _ => hfx k hk')
    have y5 := hin5.same (w' := w) (fun k hk' _ => hfx k hk')
    exact obE_loadRow rfl e4 x4 Try.underlying28 rfl (by kernel_rfl) (wanted_none rfl) rfl
  · refine ⟨⟨fun τ => stableE_det _, leans_not⟩, ?_⟩
    intro a w O hk
    have e5 : a.eval (.tmp 5) = .pointer (some ⟨gv, 0, none⟩) := (hk.init 5 (initialB_of_nw nw5)).trans hi5
    have x3 := hk.world.still hx3 (fun ⟨_, h⟩ => h.elim And.right And.right)
    have x4 := hk.world.still hx4 (fun ⟨_, h⟩ => h.elim And.right And.right)
    have x5 := hk.world.still hx5 (fun ⟨_, h⟩ => h.elim And.right And.right)
    have hfx : ∀ k, k < B → w.heap[k]? = w0.heap[k]? := fun k hk' => hk.fix k ((fun k hk' => est2_fix (Nat.lt_of_lt_of_le hk' hB) (fun e => e.elim) (fun e => e.elim)) k hk')
    have hsz := hk.world.size
    have y3 := hin3.same (w' := w) (fun k hk' _ => hfx k hk')
    have y4 := hin4.same (w' := w) (fun k hk' _ => hfx k hk')
    have y5 := hin5.same (w' := w) (fun k hk' _ => hfx k hk')
    exact obE_loadRow rfl e5 x5 Try.underlying28 rfl (by kernel_rfl) (wanted_none rfl) rfl
  · refine ⟨⟨fun τ => stableE_ex fun p => stableE_and stableE_pure (stableE_block _ _), leans_not⟩, ?_⟩
    intro a w O hk
    have e10 : a.eval (.tmp 10) = tmV pt tt := hk.fact 0 _ 10 rfl rfl rfl rfl
    have e11 : a.eval (.tmp 11) = tmV pu tu := hk.fact 1 _ 11 rfl rfl rfl rfl
    have e12 : a.eval (.tmp 12) = tmV pv tv := hk.fact 2 _ 12 rfl rfl rfl rfl
    have x3 := hk.world.still hx3 (fun ⟨_, h⟩ => h.elim And.right And.right)
    have x4 := hk.world.still hx4 (fun ⟨_, h⟩ => h.elim And.right And.right)
    have x5 := hk.world.still hx5 (fun ⟨_, h⟩ => h.elim And.right And.right)
    have hfx : ∀ k, k < B → w.heap[k]? = w0.heap[k]? := fun k hk' => hk.fix k ((fun k hk' => est2_fix (Nat.lt_of_lt_of_le hk' hB) (fun e => e.elim) (fun e => e.elim)) k hk')
    have hsz := hk.world.size
    have y3 := hin3.same (w' := w) (fun k hk' _ => hfx k hk')
    have y4 := hin4.same (w' := w) (fun k hk' _ => hfx k hk')
    have y5 := hin5.same (w' := w) (fun k hk' _ => hfx k hk')
    exact obE_res (w' := w.alloc (.cells (tmC pt tt ++ tmC pu tu ++ tmC pv tv).toArray 28 (0, 0))) (fun k => k = w.heap.size) (wanted_none rfl) (by unfold execOp; simp only [List.map_toArray, List.map_cons, List.map_nil, e10, e11, e12]; unfold tmV; go_simp; rfl) (Chg.of_below ((Below.refl _ _).alloc (Nat.le_refl _) _)) ⟨_, rfl, blk_new _ _, rfl⟩ (fun k hk => .inr ⟨by omega, by simp; omega⟩)
  · refine ⟨⟨fun τ => stableE_det _, leans_not⟩, ?_⟩
    intro a w O hk
    have f13 := hk.fact 3 _ 13 rfl rfl rfl rfl
    have g13 := hk.owns 3 rfl rfl
    have x3 := hk.world.still hx3 (fun ⟨_, h⟩ => h.elim And.right And.right)
    have x4 := hk.world.still hx4 (fun ⟨_, h⟩ => h.elim And.right And.right)
    have x5 := hk.world.still hx5 (fun ⟨_, h⟩ => h.elim And.right And.right)
    have hfx : ∀ k, k < B → w.heap[k]? = w0.heap[k]? := fun k hk' => hk.fix k ((fun k hk' => est2_fix (Nat.lt_of_lt_of_le hk' hB) (fun e => e.elim) (fun e => e.elim)) k hk')
    have hsz := hk.world.size
    have y3 := hin3.same (w' := w) (fun k hk' _ => hfx k hk')
    have y4 := hin4.same (w' := w) (fun k hk' _ => hfx k hk')
    have y5 := hin5.same (w' := w) (fun k hk' _ => hfx k hk')
    obtain ⟨r13, z13, x13, -⟩ := f13
    replace z13 : a.eval (.tmp 13) = _ := z13
    exact obE_callV #[.slice (some ⟨r13, 0, none⟩) 3 3] rfl rfl rfl rfl (by simp only [List.map_cons, List.map_nil]; rw [z13]) (wanted_none rfl) ((whole_calls B (some ⟨r13, 0, none⟩) 3 3 _ [tt, tu, tv] w (Nat.le_trans hB hsz) rfl (by decide) (let_row x13 y3 y4 y5)).mono fun e w' h => ⟨by rw [h.1, hwb], h.2⟩)
  · refine ⟨⟨fun τ => stableE_det _, leans_not⟩, ?_⟩
    intro a w O hk
    have e14 : a.eval (.tmp 14) = .bool false := hk.fact 4 _ 14 rfl rfl rfl rfl
    have x3 := hk.world.still hx3 (fun ⟨_, h⟩ => h.elim And.right And.right)
    have x4 := hk.world.still hx4 (fun ⟨_, h⟩ => h.elim And.right And.right)
    have x5 := hk.world.still hx5 (fun ⟨_, h⟩ => h.elim And.right And.right)
    have hfx : ∀ k, k < B → w.heap[k]? = w0.heap[k]? := fun k hk' => hk.fix k ((fun k hk' => est2_fix (Nat.lt_of_lt_of_le hk' hB) (fun e => e.elim) (fun e => e.elim)) k hk')
    have hsz := hk.world.size
    have y3 := hin3.same (w' := w) (fun k hk' _ => hfx k hk')
    have y4 := hin4.same (w' := w) (fun k hk' _ => hfx k hk')
    have y5 := hin5.same (w' := w) (fun k hk' _ => hfx k hk')
    exact obE_run (wanted_none rfl) (by unfold execOp; simp only []; rw [e14]; go_simp) rfl
  · refine ⟨⟨fun τ => stableE_det _, leans_not⟩, ?_⟩
    intro a w O hk
    have e15 : a.eval (.tmp 15) = .bool true := hk.fact 5 _ 15 rfl rfl rfl rfl
    exact toE (ob_move rfl e15 (wanted_none rfl) rfl)
  · refine ⟨⟨fun τ => stableE_det _, leans_not⟩, ?_⟩
    intro a w O hk
    have e3 : a.eval (.tmp 3) = .pointer (some ⟨gt, 0, none⟩) := (hk.init 3 (initialB_of_nw nw3)).trans hi3
    have e16 : a.eval (.tmp 16) = .bool true := hk.fact 6 _ 16 rfl rfl rfl rfl
    exact toE (ob_skip (unwanted_of rfl rfl rfl e16 (by decide)) rfl)
  · refine ⟨⟨fun τ => stableE_det _, leans_not⟩, ?_⟩
    intro a w O hk
    have e17 : a.eval (.tmp 17) = undef := hk.fact 7 _ 17 rfl rfl rfl rfl
    have e16 : a.eval (.tmp 16) = .bool true := hk.fact 6 _ 16 rfl rfl rfl rfl
    exact toE (ob_skip (unwanted_of rfl rfl rfl e16 (by decide)) rfl)
  · refine ⟨⟨fun τ => stableE_det _, leans_not⟩, ?_⟩
    intro a w O hk
    have e4 : a.eval (.tmp 4) = .pointer (some ⟨gu, 0, none⟩) := (hk.init 4 (initialB_of_nw nw4)).trans hi4
    have e16 : a.eval (.tmp 16) = .bool true := hk.fact 6 _ 16 rfl rfl rfl rfl
    exact toE (ob_skip (unwanted_of rfl rfl rfl e16 (by decide)) rfl)
  · refine ⟨⟨fun τ => stableE_det _, leans_not⟩, ?_⟩
    intro a w O hk
    have e19 : a.eval (.tmp 19) = undef := hk.fact 9 _ 19 rfl rfl rfl rfl
    have e16 : a.eval (.tmp 16) = .bool true := hk.fact 6 _ 16 rfl rfl rfl rfl
    exact toE (ob_skip (unwanted_of rfl rfl rfl e16 (by decide)) rfl)
  · refine ⟨⟨fun τ => stableE_det _, leans_not⟩, ?_⟩
    intro a w O hk
    have e18 : a.eval (.tmp 18) = undef := hk.fact 8 _ 18 rfl rfl rfl rfl
    have e20 : a.eval (.tmp 20) = undef := hk.fact 10 _ 20 rfl rfl rfl rfl
    have e16 : a.eval (.tmp 16) = .bool true := hk.fact 6 _ 16 rfl rfl rfl rfl
    exact toE (ob_skip (unwanted_of rfl rfl rfl e16 (by decide)) rfl)
  · refine ⟨⟨fun τ => stableE_det _, leans_not⟩, ?_⟩
    intro a w O hk
    have e21 : a.eval (.tmp 21) = undef := hk.fact 11 _ 21 rfl rfl rfl rfl
    have e16 : a.eval (.tmp 16) = .bool true := hk.fact 6 _ 16 rfl rfl rfl rfl
    exact toE (ob_skip (unwanted_of rfl rfl rfl e16 (by decide)) rfl)
  · refine ⟨⟨fun τ => stableE_det _, leans_not⟩, ?_⟩
    intro a w O hk
    have e16 : a.eval (.tmp 16) = .bool true := hk.fact 6 _ 16 rfl rfl rfl rfl
    have e22 : a.eval (.tmp 22) = undef := hk.fact 12 _ 22 rfl rfl rfl rfl
    exact toE (ob_pick rfl e16 rfl (wanted_none rfl) rfl)
  · refine ⟨⟨fun τ => stableE_det _, leans_not⟩, ?_⟩
    intro a w O hk
    have e23 : a.eval (.tmp 23) = .bool true := hk.fact 13 _ 23 rfl rfl rfl rfl
    exact toE (ob_move rfl e23 (wanted_none rfl) rfl)
  · refine ⟨⟨fun τ => stableE_det _, leans_not⟩, ?_⟩
    intro a w O hk
    have e3 : a.eval (.tmp 3) = .pointer (some ⟨gt, 0, none⟩) := (hk.init 3 (initialB_of_nw nw3)).trans hi3
    have e24 : a.eval (.tmp 24) = .bool true := hk.fact 14 _ 24 rfl rfl rfl rfl
    exact toE (ob_skip (unwanted_of rfl rfl rfl e24 (by decide)) rfl)
  · refine ⟨⟨fun τ => stableE_det _, leans_not⟩, ?_⟩
    intro a w O hk
    have e25 : a.eval (.tmp 25) = undef := hk.fact 15 _ 25 rfl rfl rfl rfl
    have e24 : a.eval (.tmp 24) = .bool true := hk.fact 14 _ 24 rfl rfl rfl rfl
    exact toE (ob_skip (unwanted_of rfl rfl rfl e24 (by decide)) rfl)
  · refine ⟨⟨fun τ => stableE_det _, leans_not⟩, ?_⟩
    intro a w O hk
    have e4 : a.eval (.tmp 4) = .pointer (some ⟨gu, 0, none⟩) := (hk.init 4 (initialB_of_nw nw4)).trans hi4
    have e24 : a.eval (.tmp 24) = .bool true := hk.fact 14 _ 24 rfl rfl rfl rfl
    exact toE (ob_skip (unwanted_of rfl rfl rfl e24 (by decide)) rfl)
  · refine ⟨⟨fun τ => stableE_det _, leans_not⟩, ?_⟩
    intro a w O hk
    have e27 : a.eval (.tmp 27) = undef := hk.fact 17 _ 27 rfl rfl rfl rfl
    have e24 : a.eval (.tmp 24) = .bool true := hk.fact 14 _ 24 rfl rfl rfl rfl
    exact toE (ob_skip (unwanted_of rfl rfl rfl e24 (by decide)) rfl)
  · refine ⟨⟨fun τ => stableE_det _, leans_not⟩, ?_⟩
    intro a w O hk
    have e26 : a.eval (.tmp 26) = undef := hk.fact 16 _ 26 rfl rfl rfl rfl
    have e28 : a.eval (.tmp 28) = undef := hk.fact 18 _ 28 rfl rfl rfl rfl
    have e24 : a.eval (.tmp 24) = .bool true := hk.fact 14 _ 24 rfl rfl rfl rfl
    exact toE (ob_skip (unwanted_of rfl rfl rfl e24 (by decide)) rfl)
  · refine ⟨⟨fun τ => stableE_det _, leans_not⟩, ?_⟩
    intro a w O hk
    have e5 : a.eval (.tmp 5) = .pointer (some ⟨gv, 0, none⟩) := (hk.init 5 (initialB_of_nw nw5)).trans hi5
    have e24 : a.eval (.tmp 24) = .bool true := hk.fact 14 _ 24 rfl rfl rfl rfl
    exact toE (ob_skip (unwanted_of rfl rfl rfl e24 (by decide)) rfl)
  · refine ⟨⟨fun τ => stableE_det _, leans_not⟩, ?_⟩
    intro a w O hk
    have e30 : a.eval (.tmp 30) = undef := hk.fact 20 _ 30 rfl rfl rfl rfl
    have e24 : a.eval (.tmp 24) = .bool true := hk.fact 14 _ 24 rfl rfl rfl rfl
    exact toE (ob_skip (unwanted_of rfl rfl rfl e24 (by decide)) rfl)
  · refine ⟨⟨fun τ => stableE_det _, leans_not⟩, ?_⟩
    intro a w O hk
    have e29 : a.eval (.tmp 29) = undef := hk.fact 19 _ 29 rfl rfl rfl rfl
    have e31 : a.eval (.tmp 31) = undef := hk.fact 21 _ 31 rfl rfl rfl rfl
    have e24 : a.eval (.tmp 24) = .bool true := hk.fact 14 _ 24 rfl rfl rfl rfl
    exact toE (ob_skip (unwanted_of rfl rfl rfl e24 (by decide)) rfl)
  · refine ⟨⟨fun τ => stableE_det _, leans_not⟩, ?_⟩
    intro a w O hk
    have e32 : a.eval (.tmp 32) = undef := hk.fact 22 _ 32 rfl rfl rfl rfl
    have e24 : a.eval (.tmp 24) = .bool true := hk.fact 14 _ 24 rfl rfl rfl rfl
    exact toE (ob_skip (unwanted_of rfl rfl rfl e24 (by decide)) rfl)
  · refine ⟨⟨fun τ => stableE_det _, leans_not⟩, ?_⟩
    intro a w O hk
    have e24 : a.eval (.tmp 24) = .bool true := hk.fact 14 _ 24 rfl rfl rfl rfl
    have e33 : a.eval (.tmp 33) = undef := hk.fact 23 _ 33 rfl rfl rfl rfl
    exact toE (ob_pick rfl e24 rfl (wanted_none rfl) rfl)
set_option maxRecDepth 100000 in
set_option maxHeartbeats 8000000 in
theorem tp1n_region {Q : Exit → Act → World → Prop} {id : Nat} (w0 : World) (B : Nat) (gt : Nat) (pt : Pl) (tt : Tm) (gu : Nat) (pu : Pl) (tu : Tm) (gv : Nat) (pv : Pl) (tv : Tm) {s0 s1 s2 s6 s7 s8 s9 s10 s11 s12 s13 s14 s15 s16 s17 s18 s19 s20 s21 s22 s23 s24 s25 s26 s27 s28 s29 s30 s31 s32 s33 s34 s35 s36 s37 s38 s39 s40 s41 s42 s43 s44 s45 s46 s47 s48 s49 s50 s51 s52 s53 s54 s55 s56 s57 s58 s59 s60 s61 s62 s63 s64 s65 s66 s67 s68 : Value} (hB : B ≤ w0.heap.size) (hx3 : w0.heap[gt]? = some (tmO pt tt)) (hin3 : TmIn w0 B pt tt) (hx4 : w0.heap[gu]? = some (tmO pu tu)) (hin4 : TmIn w0 B pu tu) (hx5 : w0.heap[gv]? = some (tmO pv tv)) (hin5 : TmIn w0 B pv tv) (hwb : wholeB [tt, tu, tv] = false)
    (hend : ∀ (w' : World) (u13 : Value) (O3 : Nat → Prop), Chg (fun k => False ∨ False) w0 w' → (∃ p, u13 = .slice (some ⟨p, 0, none⟩) 3 3 ∧ w'.heap[p]? = some (.cells (tmC pt tt ++ tmC pu tu ++ tmC pv tv).toArray 28 (0, 0)) ∧ O3 p) → (∀ k, O3 k → k < w'.heap.size ∧ ¬ Fix w0 (est2 0 0 (fun _ => False) (fun _ => False)) k) → Q .normal { tmps := (s0 :: s1 :: s2 :: (.pointer (some ⟨gt, 0, none⟩)) :: (.pointer (some ⟨gu, 0, none⟩)) :: (.pointer (some ⟨gv, 0, none⟩)) :: s6 :: s7 :: s8 :: s9 :: (tmV pt tt) :: (tmV pu tu) :: (tmV pv tv) :: u13 :: (.bool false) :: (.bool true) :: (.bool true) :: undef :: undef :: undef :: undef :: undef :: undef :: (.bool true) :: (.bool true) :: undef :: undef :: undef :: undef :: undef :: undef :: undef :: undef :: undef :: (.bool true) :: s35 :: s36 :: s37 :: s38 :: s39 :: s40 :: s41 :: s42 :: s43 :: s44 :: s45 :: s46 :: s47 :: s48 :: s49 :: s50 :: s51 :: s52 :: s53 :: s54 :: s55 :: s56 :: s57 :: s58 :: s59 :: s60 :: s61 :: s62 :: s63 :: s64 :: s65 :: s66 :: s67 :: s68 :: [] : List Value).toArray, defers := [] } w') :
    (Code.region id tp1n_ops.toArray true).wp Try.prog Q { tmps := (s0 :: s1 :: s2 :: (.pointer (some ⟨gt, 0, none⟩)) :: (.pointer (some ⟨gu, 0, none⟩)) :: (.pointer (some ⟨gv, 0, none⟩)) :: s6 :: s7 :: s8 :: s9 :: s10 :: s11 :: s12 :: s13 :: s14 :: s15 :: s16 :: s17 :: s18 :: s19 :: s20 :: s21 :: s22 :: s23 :: s24 :: s25 :: s26 :: s27 :: s28 :: s29 :: s30 :: s31 :: s32 :: s33 :: s34 :: s35 :: s36 :: s37 :: s38 :: s39 :: s40 :: s41 :: s42 :: s43 :: s44 :: s45 :: s46 :: s47 :: s48 :: s49 :: s50 :: s51 :: s52 :: s53 :: s54 :: s55 :: s56 :: s57 :: s58 :: s59 :: s60 :: s61 :: s62 :: s63 :: s64 :: s65 :: s66 :: s67 :: s68 :: [] : List Value).toArray, defers := [] } w0 := by
  refine wp_region_est (by kernel_rfl) (est2 0 0 (fun _ => False) (fun _ => False)) tp1n_C (tp1n_F w0 B gt pt tt gu pu tu gv pv tv) (est2_dis (fun _ h _ => h)) (est2_range (fun _ h => h.elim) (fun _ h => h.elim)) (by rfl) (by kernel_rfl) (tp1n_obs w0.drew B gt pt tt gu pu tu gv pv tv hB hx3 (TmS.same hin3 (fun _ _ _ => rfl)) hx4 (TmS.same hin4 (fun _ _ _ => rfl)) hx5 (TmS.same hin5 (fun _ _ _ => rfl)) hwb _ _ rfl rfl rfl) ?_
  intro a w' O hd hs hb hf hf2 ha hsame
  have hl := slots_eq (ops := tp1n_ops.toArray) [(10, tmV pt tt), (11, tmV pu tu), (12, tmV pv tv), (13, a.tmps.getD 13 undef), (14, .bool false), (15, .bool true), (16, .bool true), (17, undef), (18, undef), (19, undef), (20, undef), (21, undef), (22, undef), (23, .bool true), (24, .bool true), (25, undef), (26, undef), (27, undef), (28, undef), (29, undef), (30, undef), (31, undef), (32, undef), (33, undef), (34, .bool true)] (show a.tmps.size = 69 from hs) (fun i h => hsame i h) ⟨(hf 0 _ 10 rfl rfl (by decide)).1, (hf 1 _ 11 rfl rfl (by decide)).1, (hf 2 _ 12 rfl rfl (by decide)).1, rfl, (hf 4 _ 14 rfl rfl (by decide)).1, (hf 5 _ 15 rfl rfl (by decide)).1, (hf 6 _ 16 rfl rfl (by decide)).1, (hf 7 _ 17 rfl rfl (by decide)).1, (hf 8 _ 18 rfl rfl (by decide)).1, (hf 9 _ 19 rfl rfl (by decide)).1, (hf 10 _ 20 rfl rfl (by decide)).1, (hf 11 _ 21 rfl rfl (by decide)).1, (hf 12 _ 22 rfl rfl (by decide)).1, (hf 13 _ 23 rfl rfl (by decide)).1, (hf 14 _ 24 rfl rfl (by decide)).1, (hf 15 _ 25 rfl rfl (by decide)).1, (hf 16 _ 26 rfl rfl (by decide)).1, (hf 17 _ 27 rfl rfl (by decide)).1, (hf 18 _ 28 rfl rfl (by decide)).1, (hf 19 _ 29 rfl rfl (by decide)).1, (hf 20 _ 30 rfl rfl (by decide)).1, (hf 21 _ 31 rfl rfl (by decide)).1, (hf 22 _ 32 rfl rfl (by decide)).1, (hf 23 _ 33 rfl rfl (by decide)).1, (hf 24 _ 34 rfl rfl (by decide)).1, trivial⟩ (by kernel_rfl)
  obtain ⟨tmps, defers⟩ := a
  obtain rfl : defers = [] := hd
  have hl' : tmps = _ := hl
  rw [hl']
  have hb' := est2_chg hb
  refine Eq.mp ?_ (hend w' (tmps.getD 13 undef) (O 3) ⟨hb'.os, hb'.tape, hb'.output, hb'.size, hb'.block⟩ (hf 3 _ 13 rfl rfl (by decide)).1 (hf 3 _ 13 rfl rfl (by decide)).2)
  kernel_rfl

def tp1b_F (w0 : World) (B : Nat) (gt : Nat) (pt : Pl) (tt : Tm) (gu : Nat) (pu : Pl) (tu : Tm) (gv : Nat) (pv : Pl) (tv : Tm) (sa sb sc : Int) : Nat → (Nat → Value) → Value → World → (Nat → Prop) → Prop := fun rix => match rix with
  | 0 => fun _ v _ _ => v = tmV pt tt
  | 1 => fun _ v _ _ => v = tmV pu tu
  | 2 => fun _ v _ _ => v = tmV pv tv
  | 3 => fun τ v w O => ∃ p, v = .slice (some ⟨p, 0, none⟩) 3 3 ∧ w.heap[p]? = some (.cells (tmC pt tt ++ tmC pu tu ++ tmC pv tv).toArray 28 (0, 0)) ∧ O p
  | 4 => fun _ v _ _ => v = .bool true
  | 5 => fun _ v _ _ => v = .bool false
  | 6 => fun _ v _ _ => v = .bool false
  | 7 => fun _ v _ _ => v = tmV pt tt
  | 8 => fun _ v _ _ => v = .int .i64 sa
  | 9 => fun _ v _ _ => v = tmV pu tu
  | 10 => fun _ v _ _ => v = .int .i64 sb
  | 11 => fun _ v _ _ => v = .int .i64 (sa * sb)
  | 12 => fun _ v _ _ => v = .bool true
  | 13 => fun _ v _ _ => v = .bool true
  | 14 => fun _ v _ _ => v = .bool true
  | 15 => fun _ v _ _ => v = undef
  | 16 => fun _ v _ _ => v = undef
  | 17 => fun _ v _ _ => v = undef
  | 18 => fun _ v _ _ => v = undef
  | 19 => fun _ v _ _ => v = undef
  | 20 => fun _ v _ _ => v = undef
  | 21 => fun _ v _ _ => v = undef
  | 22 => fun _ v _ _ => v = undef
  | 23 => fun _ v _ _ => v = undef
  | 24 => fun _ v _ _ => v = .bool true
  | _ => fun _ _ _ _ => True
def tp1b_C : Nat → List Nat := fun rix => match rix with
  | _ => []
theorem tp1b_nw3 : nwB tp1n_ops.toArray 3 = true := by kernel_rfl
theorem tp1b_nw4 : nwB tp1n_ops.toArray 4 = true := by kernel_rfl
theorem tp1b_nw5 : nwB tp1n_ops.toArray 5 = true := by kernel_rfl
set_option maxRecDepth 100000 in
set_option maxHeartbeats 8000000 in
theorem tp1b_obs (w0 : World) (B : Nat) (gt : Nat) (pt : Pl) (tt : Tm) (gu : Nat) (pu : Pl) (tu : Tm) (gv : Nat) (pv : Pl) (tv : Tm) (sa sb sc : Int) (hB : B ≤ w0.heap.size) (hx3 : w0.heap[gt]? = some (tmO pt tt)) (hin3 : TmIn w0 B pt tt) (hx4 : w0.heap[gu]? = some (tmO pu tu)) (hin4 : TmIn w0 B pu tu) (hx5 : w0.heap[gv]? = some (tmO pv tv)) (hin5 : TmIn w0 B pv tv) (hwb : wholeB [tt, tu, tv] = true) (ha : (measP tt).1 = sa) (hb : (measP tu).1 = sb) (hc : (measP tv).1 = sc) (hm1 : 0 ≤ sa * sb ∧ sa * sb ≤ 1000000) (hm2 : 0 ≤ sa * sb * sc ∧ sa * sb * sc ≤ 1000000000) (hg1 : 15000 < sa * sb) (Q : Exit → Act → World → Prop) (a0 : Act) (hi3 : a0.tmps.getD 3 undef = .pointer (some ⟨gt, 0, none⟩)) (hi4 : a0.tmps.getD 4 undef = .pointer (some ⟨gu, 0, none⟩)) (hi5 : a0.tmps.getD 5 undef = .pointer (some ⟨gv, 0, none⟩)) :
    ObsE Try.prog tp1n_ops.toArray Q (est2 0 0 (fun _ => False) (fun _ => False)) tp1b_C (tp1b_F w0 B gt pt tt gu pu tu gv pv tv sa sb sc) a0 w0 tp1n_ops.toArray.toList 0 := by
  have nw3 := tp1b_nw3
  have nw4 := tp1b_nw4
  have nw5 := tp1b_nw5
  refine ⟨?_, ?_, ?_, ?_, ?_, ?_, ?_, ?_, ?_, ?_, ?_, ?_, ?_, ?_, ?_, ?_, ?_, ?_, ?_, ?_, ?_, ?_, ?_, ?_, ?_, trivial⟩
  · refine ⟨⟨fun τ => stableE_det _, leans_not⟩, ?_⟩
    intro a w O hk
    have e3 : a.eval (.tmp 3) = .pointer (some ⟨gt, 0, none⟩) := (hk.init 3 (initialB_of_nw nw3)).trans hi3
    have x3 := hk.world.still hx3 (fun ⟨_, h⟩ => h.elim And.right And.right)
    have x4 := hk.world.still hx4 (fun ⟨_, h⟩ => h.elim And.right And.right)
    have x5 := hk.world.still hx5 (fun ⟨_, h⟩ => h.elim And.right And.right)
    have hfx : ∀ k, k < B → w.heap[k]? = w0.heap[k]? := fun k hk' => hk.fix k ((fun k hk' => est2_fix (Nat.lt_of_lt_of_le hk' hB) (fun e => e.elim) (fun e => e.elim)) k hk')
    have hsz := hk.world.size
    have y3 := hin3.same (w' := w) (fun k hk' _ => hfx k hk')
    have y4 := hin4.same (w' := w) (fun k hk' _ => hfx k hk')
    have y5 := hin5.same (w' := w) (fun k hk' _ => hfx k hk')
    exact obE_loadRow rfl e3 x3 Try.underlying28 rfl (by kernel_rfl) (wanted_none rfl) rfl
  · refine ⟨⟨fun τ => stableE_det _, leans_not⟩, ?_⟩
    intro a w O hk
    have e4 : a.eval (.tmp 4) = .pointer (some ⟨gu, 0, none⟩) := (hk.init 4 (initialB_of_nw nw4)).trans hi4
    have x3 := hk.world.still hx3 (fun ⟨_, h⟩ => h.elim And.right And.right)
    have x4 := hk.world.still hx4 (fun ⟨_, h⟩ => h.elim And.right And.right)
    have x5 := hk.world.still hx5 (fun ⟨_, h⟩ => h.elim And.right And.right)
    have hfx : ∀ k, k < B → w.heap[k]? = w0.heap[k]? := fun k hk' => hk.fix k ((fun k hk' => est2_fix (Nat.lt_of_lt_of_le hk' hB) (fun e => e.elim) (fun e => e.elim)) k hk')
    have hsz := hk.world.size
    have y3 := hin3.same (w' := w) (fun k hk' _ => hfx k hk')
    have y4 := hin4.same (w' := w) (fun k hk' _ => hfx k hk')
    have y5 := hin5.same (w' := w) (fun k hk' _ => hfx k hk')
    exact obE_loadRow rfl e4 x4 Try.underlying28 rfl (by kernel_rfl) (wanted_none rfl) rfl
  · refine ⟨⟨fun τ => stableE_det _, leans_not⟩, ?_⟩
    intro a w O hk
    have e5 : a.eval (.tmp 5) = .pointer (some ⟨gv, 0, none⟩) := (hk.init 5 (initialB_of_nw nw5)).trans hi5
    have x3 := hk.world.still hx3 (fun ⟨_, h⟩ => h.elim And.right And.right)
    have x4 := hk.world.still hx4 (fun ⟨_, h⟩ => h.elim And.right And.right)
    have x5 := hk.world.still hx5 (fun ⟨_, h⟩ => h.elim And.right And.right)
    have hfx : ∀ k, k < B → w.heap[k]? = w0.heap[k]? := fun k hk' => hk.fix k ((fun k hk' => est2_fix (Nat.lt_of_lt_of_le hk' hB) (fun e => e.elim) (fun e => e.elim)) k hk')
    have hsz := hk.world.size
    have y3 := hin3.same (w' := w) (fun k hk' _ => hfx k hk')
    have y4 := hin4.same (w' := w) (fun k hk' _ => hfx k hk')
    have y5 := hin5.same (w' := w) (fun k hk' _ => hfx k hk')
    exact obE_loadRow rfl e5 x5 Try.underlying28 rfl (by kernel_rfl) (wanted_none rfl) rfl
  · refine ⟨⟨fun τ => stableE_ex fun p => stableE_and stableE_pure (stableE_block _ _), leans_not⟩, ?_⟩
    intro a w O hk
    have e10 : a.eval (.tmp 10) = tmV pt tt := hk.fact 0 _ 10 rfl rfl rfl rfl
    have e11 : a.eval (.tmp 11) = tmV pu tu := hk.fact 1 _ 11 rfl rfl rfl rfl
    have e12 : a.eval (.tmp 12) = tmV pv tv := hk.fact 2 _ 12 rfl rfl rfl rfl
    have x3 := hk.world.still hx3 (fun ⟨_, h⟩ => h.elim And.right And.right)
    have x4 := hk.world.still hx4 (fun ⟨_, h⟩ => h.elim And.right And.right)
    have x5 := hk.world.still hx5 (fun ⟨_, h⟩ => h.elim And.right And.right)
    have hfx : ∀ k, k < B → w.heap[k]? = w0.heap[k]? := fun k hk' => hk.fix k ((fun k hk' => est2_fix (Nat.lt_of_lt_of_le hk' hB) (fun e => e.elim) (fun e => e.elim)) k hk')
    have hsz := hk.world.size
    have y3 := hin3.same (w' := w) (fun k hk' _ => hfx k hk')
    have y4 := hin4.same (w' := w) (fun k hk' _ => hfx k hk')
    have y5 := hin5.same (w' := w) (fun k hk' _ => hfx k hk')
    exact obE_res (w' := w.alloc (.cells (tmC pt tt ++ tmC pu tu ++ tmC pv tv).toArray 28 (0, 0))) (fun k => k = w.heap.size) (wanted_none rfl) (by unfold execOp; simp only [List.map_toArray, List.map_cons, List.map_nil, e10, e11, e12]; unfold tmV; go_simp; rfl) (Chg.of_below ((Below.refl _ _).alloc (Nat.le_refl _) _)) ⟨_, rfl, blk_new _ _, rfl⟩ (fun k hk => .inr ⟨by omega, by simp; omega⟩)
  · refine ⟨⟨fun τ => stableE_det _, leans_not⟩, ?_⟩
    intro a w O hk
    have f13 := hk.fact 3 _ 13 rfl rfl rfl rfl
    have g13 := hk.owns 3 rfl rfl
    have x3 := hk.world.still hx3 (fun ⟨_, h⟩ => h.elim And.right And.right)
    have x4 := hk.world.still hx4 (fun ⟨_, h⟩ => h.elim And.right And.right)
    have x5 := hk.world.still hx5 (fun ⟨_, h⟩ => h.elim And.right And.right)
    have hfx : ∀ k, k < B → w.heap[k]? = w0.heap[k]? := fun k hk' => hk.fix k ((fun k hk' => est2_fix (Nat.lt_of_lt_of_le hk' hB) (fun e => e.elim) (fun e => e.elim)) k hk')
    have hsz := hk.world.size
    have y3 := hin3.same (w' := w) (fun k hk' _ => hfx k hk')
    have y4 := hin4.same (w' := w) (fun k hk' _ => hfx k hk')
    have y5 := hin5.same (w' := w) (fun k hk' _ => hfx k hk')
    obtain ⟨r13, z13, x13, -⟩ := f13
    replace z13 : a.eval (.tmp 13) = _ := z13
    exact obE_callV #[.slice (some ⟨r13, 0, none⟩) 3 3] rfl rfl rfl rfl (by simp only [List.map_cons, List.map_nil]; rw [z13]) (wanted_none rfl) ((whole_calls B (some ⟨r13, 0, none⟩) 3 3 _ [tt, tu, tv] w (Nat.le_trans hB hsz) rfl (by decide) (let_row x13 y3 y4 y5)).mono fun e w' h => ⟨by rw [h.1, hwb], h.2⟩)
  · refine ⟨⟨fun τ => stableE_det _, leans_not⟩, ?_⟩
    intro a w O hk
    have e14 : a.eval (.tmp 14) = .bool true := hk.fact 4 _ 14 rfl rfl rfl rfl
    have x3 := hk.world.still hx3 (fun ⟨_, h⟩ => h.elim And.right And.right)
    have x4 := hk.world.still hx4 (fun ⟨_, h⟩ => h.elim And.right And.right)
    have x5 := hk.world.still hx5 (fun ⟨_, h⟩ => h.elim And.right And.right)
    have hfx : ∀ k, k < B → w.heap[k]? = w0.heap[k]? := fun k hk' => hk.fix k ((fun k hk' => est2_fix (Nat.lt_of_lt_of_le hk' hB) (fun e => e.elim) (fun e => e.elim)) k hk')
    have hsz := hk.world.size
    have y3 := hin3.same (w' := w) (fun k hk' _ => hfx k hk')
    have y4 := hin4.same (w' := w) (fun k hk' _ => hfx k hk')
    have y5 := hin5.same (w' := w) (fun k hk' _ => hfx k hk')
    exact obE_run (wanted_none rfl) (by unfold execOp; simp only []; rw [e14]; go_simp) rfl
  · refine ⟨⟨fun τ => stableE_det _, leans_not⟩, ?_⟩
    intro a w O hk
    have e15 : a.eval (.tmp 15) = .bool false := hk.fact 5 _ 15 rfl rfl rfl rfl
    exact toE (ob_move rfl e15 (wanted_none rfl) rfl)
  · refine ⟨⟨fun τ => stableE_det _, leans_not⟩, ?_⟩
    intro a w O hk
    have e3 : a.eval (.tmp 3) = .pointer (some ⟨gt, 0, none⟩) := (hk.init 3 (initialB_of_nw nw3)).trans hi3
    have e16 : a.eval (.tmp 16) = .bool false := hk.fact 6 _ 16 rfl rfl rfl rfl
    have x3 := hk.world.still hx3 (fun ⟨_, h⟩ => h.elim And.right And.right)
    have x4 := hk.world.still hx4 (fun ⟨_, h⟩ => h.elim And.right And.right)
    have x5 := hk.world.still hx5 (fun ⟨_, h⟩ => h.elim And.right And.right)
    have hfx : ∀ k, k < B → w.heap[k]? = w0.heap[k]? := fun k hk' => hk.fix k ((fun k hk' => est2_fix (Nat.lt_of_lt_of_le hk' hB) (fun e => e.elim) (fun e => e.elim)) k hk')
    have hsz := hk.world.size
    have y3 := hin3.same (w' := w) (fun k hk' _ => hfx k hk')
    have y4 := hin4.same (w' := w) (fun k hk' _ => hfx k hk')
    have y5 := hin5.same (w' := w) (fun k hk' _ => hfx k hk')
    exact obE_loadRow rfl e3 x3 Try.underlying28 rfl (by kernel_rfl) (wanted_of rfl rfl rfl e16) rfl
  · refine ⟨⟨fun τ => stableE_det _, leans_not⟩, ?_⟩
    intro a w O hk
    have e17 : a.eval (.tmp 17) = tmV pt tt := hk.fact 7 _ 17 rfl rfl rfl rfl
    have e16 : a.eval (.tmp 16) = .bool false := hk.fact 6 _ 16 rfl rfl rfl rfl
    have x3 := hk.world.still hx3 (fun ⟨_, h⟩ => h.elim And.right And.right)
    have x4 := hk.world.still hx4 (fun ⟨_, h⟩ => h.elim And.right And.right)
    have x5 := hk.world.still hx5 (fun ⟨_, h⟩ => h.elim And.right And.right)
    have hfx : ∀ k, k < B → w.heap[k]? = w0.heap[k]? := fun k hk' => hk.fix k ((fun k hk' => est2_fix (Nat.lt_of_lt_of_le hk' hB) (fun e => e.elim) (fun e => e.elim)) k hk')
    have hsz := hk.world.size
    have y3 := hin3.same (w' := w) (fun k hk' _ => hfx k hk')
    have y4 := hin4.same (w' := w) (fun k hk' _ => hfx k hk')
    have y5 := hin5.same (w' := w) (fun k hk' _ => hfx k hk')
    exact obE_callV #[tmV pt tt] rfl rfl rfl rfl (by simp only [List.map_cons, List.map_nil]; rw [e17]; try rfl) (wanted_of rfl rfl rfl e16) ((refSize_calls tt pt w (TmIn.mono y3 (Nat.le_trans hB hsz))).mono fun e w' h => ⟨by rw [h.1, ha], h.2⟩)
  · refine ⟨⟨fun τ => stableE_det _, leans_not⟩, ?_⟩
    intro a w O hk
    have e4 : a.eval (.tmp 4) = .pointer (some ⟨gu, 0, none⟩) := (hk.init 4 (initialB_of_nw nw4)).trans hi4
    have e16 : a.eval (.tmp 16) = .bool false := hk.fact 6 _ 16 rfl rfl rfl rfl
    have x3 := hk.world.still hx3 (fun ⟨_, h⟩ => h.elim And.right And.right)
    have x4 := hk.world.still hx4 (fun ⟨_, h⟩ => h.elim And.right And.right)
    have x5 := hk.world.still hx5 (fun ⟨_, h⟩ => h.elim And.right And.right)
    have hfx : ∀ k, k < B → w.heap[k]? = w0.heap[k]? := fun k hk' => hk.fix k ((fun k hk' => est2_fix (Nat.lt_of_lt_of_le hk' hB) (fun e => e.elim) (fun e => e.elim)) k hk')
    have hsz := hk.world.size
    have y3 := hin3.same (w' := w) (fun k hk' _ => hfx k hk')
    have y4 := hin4.same (w' := w) (fun k hk' _ => hfx k hk')
    have y5 := hin5.same (w' := w) (fun k hk' _ => hfx k hk')
    exact obE_loadRow rfl e4 x4 Try.underlying28 rfl (by kernel_rfl) (wanted_of rfl rfl rfl e16) rfl
  · refine ⟨⟨fun τ => stableE_det _, leans_not⟩, ?_⟩
    intro a w O hk
    have e19 : a.eval (.tmp 19) = tmV pu tu := hk.fact 9 _ 19 rfl rfl rfl rfl
    have e16 : a.eval (.tmp 16) = .bool false := hk.fact 6 _ 16 rfl rfl rfl rfl
    have x3 := hk.world.still hx3 (fun ⟨_, h⟩ => h.elim And.right And.right)
    have x4 := hk.world.still hx4 (fun ⟨_, h⟩ => h.elim And.right And.right)
    have x5 := hk.world.still hx5 (fun ⟨_, h⟩ => h.elim And.right And.right)
    have hfx : ∀ k, k < B → w.heap[k]? = w0.heap[k]? := fun k hk' => hk.fix k ((fun k hk' => est2_fix (Nat.lt_of_lt_of_le hk' hB) (fun e => e.elim) (fun e => e.elim)) k hk')
    have hsz := hk.world.size
    have y3 := hin3.same (w' := w) (fun k hk' _ => hfx k hk')
    have y4 := hin4.same (w' := w) (fun k hk' _ => hfx k hk')
    have y5 := hin5.same (w' := w) (fun k hk' _ => hfx k hk')
    exact obE_callV #[tmV pu tu] rfl rfl rfl rfl (by simp only [List.map_cons, List.map_nil]; rw [e19]; try rfl) (wanted_of rfl rfl rfl e16) ((refSize_calls tu pu w (TmIn.mono y4 (Nat.le_trans hB hsz))).mono fun e w' h => ⟨by rw [h.1, hb], h.2⟩)
  · refine ⟨⟨fun τ => stableE_det _, leans_not⟩, ?_⟩
    intro a w O hk
    have e18 : a.eval (.tmp 18) = .int .i64 sa := hk.fact 8 _ 18 rfl rfl rfl rfl
    have e20 : a.eval (.tmp 20) = .int .i64 sb := hk.fact 10 _ 20 rfl rfl rfl rfl
    have e16 : a.eval (.tmp 16) = .bool false := hk.fact 6 _ 16 rfl rfl rfl rfl
    have x3 := hk.world.still hx3 (fun ⟨_, h⟩ => h.elim And.right And.right)
    have x4 := hk.world.still hx4 (fun ⟨_, h⟩ => h.elim And.right And.right)
    have x5 := hk.world.still hx5 (fun ⟨_, h⟩ => h.elim And.right And.right)
    have hfx : ∀ k, k < B → w.heap[k]? = w0.heap[k]? := fun k hk' => hk.fix k ((fun k hk' => est2_fix (Nat.lt_of_lt_of_le hk' hB) (fun e => e.elim) (fun e => e.elim)) k hk')
    have hsz := hk.world.size
    have y3 := hin3.same (w' := w) (fun k hk' _ => hfx k hk')
    have y4 := hin4.same (w' := w) (fun k hk' _ => hfx k hk')
    have y5 := hin5.same (w' := w) (fun k hk' _ => hfx k hk')
    have hw9 : IntKind.i64.wrap (sa * sb) = sa * sb := IntWalk.i64_in _ (by omega)
    exact obE_run (wanted_of rfl rfl rfl e16) (by unfold execOp; simp only []; rw [e18, e20]; go_simp) rfl
  · refine ⟨⟨fun τ => stableE_det _, leans_not⟩, ?_⟩
    intro a w O hk
    have e21 : a.eval (.tmp 21) = .int .i64 (sa * sb) := hk.fact 11 _ 21 rfl rfl rfl rfl
    have e16 : a.eval (.tmp 16) = .bool false := hk.fact 6 _ 16 rfl rfl rfl rfl
    have x3 := hk.world.still hx3 (fun ⟨_, h⟩ => h.elim And.right And.right)
    have x4 := hk.world.still hx4 (fun ⟨_, h⟩ => h.elim And.right And.right)
    have x5 := hk.world.still hx5 (fun ⟨_, h⟩ => h.elim And.right And.right)
    have hfx : ∀ k, k < B → w.heap[k]? = w0.heap[k]? := fun k hk' => hk.fix k ((fun k hk' => est2_fix (Nat.lt_of_lt_of_le hk' hB) (fun e => e.elim) (fun e => e.elim)) k hk')
    have hsz := hk.world.size
    have y3 := hin3.same (w' := w) (fun k hk' _ => hfx k hk')
    have y4 := hin4.same (w' := w) (fun k hk' _ => hfx k hk')
    have y5 := hin5.same (w' := w) (fun k hk' _ => hfx k hk')
    exact obE_run (wanted_of rfl rfl rfl e16) (by unfold execOp; simp only []; rw [e21]; go_simp <;> (simp <;> omega)) rfl
  · refine ⟨⟨fun τ => stableE_det _, leans_not⟩, ?_⟩
    intro a w O hk
    have e16 : a.eval (.tmp 16) = .bool false := hk.fact 6 _ 16 rfl rfl rfl rfl
    have e22 : a.eval (.tmp 22) = .bool true := hk.fact 12 _ 22 rfl rfl rfl rfl
    exact toE (ob_pick rfl e16 e22 (wanted_none rfl) rfl)
  · refine ⟨⟨fun τ => stableE_det _, leans_not⟩, ?_⟩
    intro a w O hk
    have e23 : a.eval (.tmp 23) = .bool true := hk.fact 13 _ 23 rfl rfl rfl rfl
    exact toE (ob_move rfl e23 (wanted_none rfl) rfl)
  · refine ⟨⟨fun τ => stableE_det _, leans_not⟩, ?_⟩
    intro a w O hk
    have e3 : a.eval (.tmp 3) = .pointer (some ⟨gt, 0, none⟩) := (hk.init 3 (initialB_of_nw nw3)).trans hi3
    have e24 : a.eval (.tmp 24) = .bool true := hk.fact 14 _ 24 rfl rfl rfl rfl
    exact toE (ob_skip (unwanted_of rfl rfl rfl e24 (by decide)) rfl)
  · refine ⟨⟨fun τ => stableE_det _, leans_not⟩, ?_⟩
    intro a w O hk
    have e25 : a.eval (.tmp 25) = undef := hk.fact 15 _ 25 rfl rfl rfl rfl
    have e24 : a.eval (.tmp 24) = .bool true := hk.fact 14 _ 24 rfl rfl rfl rfl
    exact toE (ob_skip (unwanted_of rfl rfl rfl e24 (by decide)) rfl)
  · refine ⟨⟨fun τ => stableE_det _, leans_not⟩, ?_⟩
    intro a w O hk
    have e4 : a.eval (.tmp 4) = .pointer (some ⟨gu, 0, none⟩) := (hk.init 4 (initialB_of_nw nw4)).trans hi4
    have e24 : a.eval (.tmp 24) = .bool true := hk.fact 14 _ 24 rfl rfl rfl rfl
    exact toE (ob_skip (unwanted_of rfl rfl rfl e24 (by decide)) rfl)
  · refine ⟨⟨fun τ => stableE_det _, leans_not⟩, ?_⟩
    intro a w O hk
    have e27 : a.eval (.tmp 27) = undef := hk.fact 17 _ 27 rfl rfl rfl rfl
    have e24 : a.eval (.tmp 24) = .bool true := hk.fact 14 _ 24 rfl rfl rfl rfl
    exact toE (ob_skip (unwanted_of rfl rfl rfl e24 (by decide)) rfl)
  · refine ⟨⟨fun τ => stableE_det _, leans_not⟩, ?_⟩
    intro a w O hk
    have e26 : a.eval (.tmp 26) = undef := hk.fact 16 _ 26 rfl rfl rfl rfl
    have e28 : a.eval (.tmp 28) = undef := hk.fact 18 _ 28 rfl rfl rfl rfl
    have e24 : a.eval (.tmp 24) = .bool true := hk.fact 14 _ 24 rfl rfl rfl rfl
    exact toE (ob_skip (unwanted_of rfl rfl rfl e24 (by decide)) rfl)
  · refine ⟨⟨fun τ => stableE_det _, leans_not⟩, ?_⟩
    intro a w O hk
    have e5 : a.eval (.tmp 5) = .pointer (some ⟨gv, 0, none⟩) := (hk.init 5 (initialB_of_nw nw5)).trans hi5
    have e24 : a.eval (.tmp 24) = .bool true := hk.fact 14 _ 24 rfl rfl rfl rfl
    exact toE (ob_skip (unwanted_of rfl rfl rfl e24 (by decide)) rfl)
  · refine ⟨⟨fun τ => stableE_det _, leans_not⟩, ?_⟩
    intro a w O hk
    have e30 : a.eval (.tmp 30) = undef := hk.fact 20 _ 30 rfl rfl rfl rfl
    have e24 : a.eval (.tmp 24) = .bool true := hk.fact 14 _ 24 rfl rfl rfl rfl
    exact toE (ob_skip (unwanted_of rfl rfl rfl e24 (by decide)) rfl)
  · refine ⟨⟨fun τ => stableE_det _, leans_not⟩, ?_⟩
    intro a w O hk
    have e29 : a.eval (.tmp 29) = undef := hk.fact 19 _ 29 rfl rfl rfl rfl
    have e31 : a.eval (.tmp 31) = undef := hk.fact 21 _ 31 rfl rfl rfl rfl
    have e24 : a.eval (.tmp 24) = .bool true := hk.fact 14 _ 24 rfl rfl rfl rfl
    exact toE (ob_skip (unwanted_of rfl rfl rfl e24 (by decide)) rfl)
  · refine ⟨⟨fun τ => stableE_det _, leans_not⟩, ?_⟩
    intro a w O hk
    have e32 : a.eval (.tmp 32) = undef := hk.fact 22 _ 32 rfl rfl rfl rfl
    have e24 : a.eval (.tmp 24) = .bool true := hk.fact 14 _ 24 rfl rfl rfl rfl
    exact toE (ob_skip (unwanted_of rfl rfl rfl e24 (by decide)) rfl)
  · refine ⟨⟨fun τ => stableE_det _, leans_not⟩, ?_⟩
    intro a w O hk
    have e24 : a.eval (.tmp 24) = .bool true := hk.fact 14 _ 24 rfl rfl rfl rfl
    have e33 : a.eval (.tmp 33) = undef := hk.fact 23 _ 33 rfl rfl rfl rfl
    exact toE (ob_pick rfl e24 rfl (wanted_none rfl) rfl)
set_option maxRecDepth 100000 in
set_option maxHeartbeats 8000000 in
theorem tp1b_region {Q : Exit → Act → World → Prop} {id : Nat} (w0 : World) (B : Nat) (gt : Nat) (pt : Pl) (tt : Tm) (gu : Nat) (pu : Pl) (tu : Tm) (gv : Nat) (pv : Pl) (tv : Tm) (sa sb sc : Int) {s0 s1 s2 s6 s7 s8 s9 s10 s11 s12 s13 s14 s15 s16 s17 s18 s19 s20 s21 s22 s23 s24 s25 s26 s27 s28 s29 s30 s31 s32 s33 s34 s35 s36 s37 s38 s39 s40 s41 s42 s43 s44 s45 s46 s47 s48 s49 s50 s51 s52 s53 s54 s55 s56 s57 s58 s59 s60 s61 s62 s63 s64 s65 s66 s67 s68 : Value} (hB : B ≤ w0.heap.size) (hx3 : w0.heap[gt]? = some (tmO pt tt)) (hin3 : TmIn w0 B pt tt) (hx4 : w0.heap[gu]? = some (tmO pu tu)) (hin4 : TmIn w0 B pu tu) (hx5 : w0.heap[gv]? = some (tmO pv tv)) (hin5 : TmIn w0 B pv tv) (hwb : wholeB [tt, tu, tv] = true) (ha : (measP tt).1 = sa) (hb : (measP tu).1 = sb) (hc : (measP tv).1 = sc) (hm1 : 0 ≤ sa * sb ∧ sa * sb ≤ 1000000) (hm2 : 0 ≤ sa * sb * sc ∧ sa * sb * sc ≤ 1000000000) (hg1 : 15000 < sa * sb)
    (hend : ∀ (w' : World) (u13 : Value) (O3 : Nat → Prop), Chg (fun k => False ∨ False) w0 w' → (∃ p, u13 = .slice (some ⟨p, 0, none⟩) 3 3 ∧ w'.heap[p]? = some (.cells (tmC pt tt ++ tmC pu tu ++ tmC pv tv).toArray 28 (0, 0)) ∧ O3 p) → (∀ k, O3 k → k < w'.heap.size ∧ ¬ Fix w0 (est2 0 0 (fun _ => False) (fun _ => False)) k) → Q .normal { tmps := (s0 :: s1 :: s2 :: (.pointer (some ⟨gt, 0, none⟩)) :: (.pointer (some ⟨gu, 0, none⟩)) :: (.pointer (some ⟨gv, 0, none⟩)) :: s6 :: s7 :: s8 :: s9 :: (tmV pt tt) :: (tmV pu tu) :: (tmV pv tv) :: u13 :: (.bool true) :: (.bool false) :: (.bool false) :: (tmV pt tt) :: (.int .i64 sa) :: (tmV pu tu) :: (.int .i64 sb) :: (.int .i64 (sa * sb)) :: (.bool true) :: (.bool true) :: (.bool true) :: undef :: undef :: undef :: undef :: undef :: undef :: undef :: undef :: undef :: (.bool true) :: s35 :: s36 :: s37 :: s38 :: s39 :: s40 :: s41 :: s42 :: s43 :: s44 :: s45 :: s46 :: s47 :: s48 :: s49 :: s50 :: s51 :: s52 :: s53 :: s54 :: s55 :: s56 :: s57 :: s58 :: s59 :: s60 :: s61 :: s62 :: s63 :: s64 :: s65 :: s66 :: s67 :: s68 :: [] : List Value).toArray, defers := [] } w') :
    (Code.region id tp1n_ops.toArray true).wp Try.prog Q { tmps := (s0 :: s1 :: s2 :: (.pointer (some ⟨gt, 0, none⟩)) :: (.pointer (some ⟨gu, 0, none⟩)) :: (.pointer (some ⟨gv, 0, none⟩)) :: s6 :: s7 :: s8 :: s9 :: s10 :: s11 :: s12 :: s13 :: s14 :: s15 :: s16 :: s17 :: s18 :: s19 :: s20 :: s21 :: s22 :: s23 :: s24 :: s25 :: s26 :: s27 :: s28 :: s29 :: s30 :: s31 :: s32 :: s33 :: s34 :: s35 :: s36 :: s37 :: s38 :: s39 :: s40 :: s41 :: s42 :: s43 :: s44 :: s45 :: s46 :: s47 :: s48 :: s49 :: s50 :: s51 :: s52 :: s53 :: s54 :: s55 :: s56 :: s57 :: s58 :: s59 :: s60 :: s61 :: s62 :: s63 :: s64 :: s65 :: s66 :: s67 :: s68 :: [] : List Value).toArray, defers := [] } w0 := by
  refine wp_region_est (by kernel_rfl) (est2 0 0 (fun _ => False) (fun _ => False)) tp1b_C (tp1b_F w0 B gt pt tt gu pu tu gv pv tv sa sb sc) (est2_dis (fun _ h _ => h)) (est2_range (fun _ h => h.elim) (fun _ h => h.elim)) (by rfl) (by kernel_rfl) (tp1b_obs w0.drew B gt pt tt gu pu tu gv pv tv sa sb sc hB hx3 (TmS.same hin3 (fun _ _ _ => rfl)) hx4 (TmS.same hin4 (fun _ _ _ => rfl)) hx5 (TmS.same hin5 (fun _ _ _ => rfl)) hwb ha hb hc hm1 hm2 hg1 _ _ rfl rfl rfl) ?_
  intro a w' O hd hs hb hf hf2 ha hsame
  have hl := slots_eq (ops := tp1n_ops.toArray) [(10, tmV pt tt), (11, tmV pu tu), (12, tmV pv tv), (13, a.tmps.getD 13 undef), (14, .bool true), (15, .bool false), (16, .bool false), (17, tmV pt tt), (18, .int .i64 sa), (19, tmV pu tu), (20, .int .i64 sb), (21, .int .i64 (sa * sb)), (22, .bool true), (23, .bool true), (24, .bool true), (25, undef), (26, undef), (27, undef), (28, undef), (29, undef), (30, undef), (31, undef), (32, undef), (33, undef), (34, .bool true)] (show a.tmps.size = 69 from hs) (fun i h => hsame i h) ⟨(hf 0 _ 10 rfl rfl (by decide)).1, (hf 1 _ 11 rfl rfl (by decide)).1, (hf 2 _ 12 rfl rfl (by decide)).1, rfl, (hf 4 _ 14 rfl rfl (by decide)).1, (hf 5 _ 15 rfl rfl (by decide)).1, (hf 6 _ 16 rfl rfl (by decide)).1, (hf 7 _ 17 rfl rfl (by decide)).1, (hf 8 _ 18 rfl rfl (by decide)).1, (hf 9 _ 19 rfl rfl (by decide)).1, (hf 10 _ 20 rfl rfl (by decide)).1, (hf 11 _ 21 rfl rfl (by decide)).1, (hf 12 _ 22 rfl rfl (by decide)).1, (hf 13 _ 23 rfl rfl (by decide)).1, (hf 14 _ 24 rfl rfl (by decide)).1, (hf 15 _ 25 rfl rfl (by decide)).1, (hf 16 _ 26 rfl rfl (by decide)).1, (hf 17 _ 27 rfl rfl (by decide)).1, (hf 18 _ 28 rfl rfl (by decide)).1, (hf 19 _ 29 rfl rfl (by decide)).1, (hf 20 _ 30 rfl rfl (by decide)).1, (hf 21 _ 31 rfl rfl (by decide)).1, (hf 22 _ 32 rfl rfl (by decide)).1, (hf 23 _ 33 rfl rfl (by decide)).1, (hf 24 _ 34 rfl rfl (by decide)).1, trivial⟩ (by kernel_rfl)
  obtain ⟨tmps, defers⟩ := a
  obtain rfl : defers = [] := hd
  have hl' : tmps = _ := hl
  rw [hl']
  have hb' := est2_chg hb
  refine Eq.mp ?_ (hend w' (tmps.getD 13 undef) (O 3) ⟨hb'.os, hb'.tape, hb'.output, hb'.size, hb'.block⟩ (hf 3 _ 13 rfl rfl (by decide)).1 (hf 3 _ 13 rfl rfl (by decide)).2)
  kernel_rfl

def tp1c_F (w0 : World) (B : Nat) (gt : Nat) (pt : Pl) (tt : Tm) (gu : Nat) (pu : Pl) (tu : Tm) (gv : Nat) (pv : Pl) (tv : Tm) (sa sb sc : Int) : Nat → (Nat → Value) → Value → World → (Nat → Prop) → Prop := fun rix => match rix with
  | 0 => fun _ v _ _ => v = tmV pt tt
  | 1 => fun _ v _ _ => v = tmV pu tu
  | 2 => fun _ v _ _ => v = tmV pv tv
  | 3 => fun τ v w O => ∃ p, v = .slice (some ⟨p, 0, none⟩) 3 3 ∧ w.heap[p]? = some (.cells (tmC pt tt ++ tmC pu tu ++ tmC pv tv).toArray 28 (0, 0)) ∧ O p
  | 4 => fun _ v _ _ => v = .bool true
  | 5 => fun _ v _ _ => v = .bool false
  | 6 => fun _ v _ _ => v = .bool false
  | 7 => fun _ v _ _ => v = tmV pt tt
  | 8 => fun _ v _ _ => v = .int .i64 sa
  | 9 => fun _ v _ _ => v = tmV pu tu
  | 10 => fun _ v _ _ => v = .int .i64 sb
  | 11 => fun _ v _ _ => v = .int .i64 (sa * sb)
  | 12 => fun _ v _ _ => v = .bool false
  | 13 => fun _ v _ _ => v = .bool false
  | 14 => fun _ v _ _ => v = .bool false
  | 15 => fun _ v _ _ => v = tmV pt tt
  | 16 => fun _ v _ _ => v = .int .i64 sa
  | 17 => fun _ v _ _ => v = tmV pu tu
  | 18 => fun _ v _ _ => v = .int .i64 sb
  | 19 => fun _ v _ _ => v = .int .i64 (sa * sb)
  | 20 => fun _ v _ _ => v = tmV pv tv
  | 21 => fun _ v _ _ => v = .int .i64 sc
  | 22 => fun _ v _ _ => v = .int .i64 (sa * sb * sc)
  | 23 => fun _ v _ _ => v = .bool true
  | 24 => fun _ v _ _ => v = .bool true
  | _ => fun _ _ _ _ => True
def tp1c_C : Nat → List Nat := fun rix => match rix with
  | _ => []
theorem tp1c_nw3 : nwB tp1n_ops.toArray 3 = true := by kernel_rfl
theorem tp1c_nw4 : nwB tp1n_ops.toArray 4 = true := by kernel_rfl
theorem tp1c_nw5 : nwB tp1n_ops.toArray 5 = true := by kernel_rfl
set_option maxRecDepth 100000 in
set_option maxHeartbeats 8000000 in
theorem tp1c_obs (w0 : World) (B : Nat) (gt : Nat) (pt : Pl) (tt : Tm) (gu : Nat) (pu : Pl) (tu : Tm) (gv : Nat) (pv : Pl) (tv : Tm) (sa sb sc : Int) (hB : B ≤ w0.heap.size) (hx3 : w0.heap[gt]? = some (tmO pt tt)) (hin3 : TmIn w0 B pt tt) (hx4 : w0.heap[gu]? = some (tmO pu tu)) (hin4 : TmIn w0 B pu tu) (hx5 : w0.heap[gv]? = some (tmO pv tv)) (hin5 : TmIn w0 B pv tv) (hwb : wholeB [tt, tu, tv] = true) (ha : (measP tt).1 = sa) (hb : (measP tu).1 = sb) (hc : (measP tv).1 = sc) (hm1 : 0 ≤ sa * sb ∧ sa * sb ≤ 1000000) (hm2 : 0 ≤ sa * sb * sc ∧ sa * sb * sc ≤ 1000000000) (hg1 : ¬ 15000 < sa * sb) (hg2 : 15000 < sa * sb * sc) (Q : Exit → Act → World → Prop) (a0 : Act) (hi3 : a0.tmps.getD 3 undef = .pointer (some ⟨gt, 0, none⟩)) (hi4 : a0.tmps.getD 4 undef = .pointer (some ⟨gu, 0, none⟩)) (hi5 : a0.tmps.getD 5 undef = .pointer (some ⟨gv, 0, none⟩)) :
    ObsE Try.prog tp1n_ops.toArray Q (est2 0 0 (fun _ => False) (fun _ => False)) tp1c_C (tp1c_F w0 B gt pt tt gu pu tu gv pv tv sa sb sc) a0 w0 tp1n_ops.toArray.toList 0 := by
  have nw3 := tp1c_nw3
  have nw4 := tp1c_nw4
  have nw5 := tp1c_nw5
  refine ⟨?_, ?_, ?_, ?_, ?_, ?_, ?_, ?_, ?_, ?_, ?_, ?_, ?_, ?_, ?_, ?_, ?_, ?_, ?_, ?_, ?_, ?_, ?_, ?_, ?_, trivial⟩
  · refine ⟨⟨fun τ => stableE_det _, leans_not⟩, ?_⟩
    intro a w O hk
    have e3 : a.eval (.tmp 3) = .pointer (some ⟨gt, 0, none⟩) := (hk.init 3 (initialB_of_nw nw3)).trans hi3
    have x3 := hk.world.still hx3 (fun ⟨_, h⟩ => h.elim And.right And.right)
    have x4 := hk.world.still hx4 (fun ⟨_, h⟩ => h.elim And.right And.right)
    have x5 := hk.world.still hx5 (fun ⟨_, h⟩ => h.elim And.right And.right)
    have hfx : ∀ k, k < B → w.heap[k]? = w0.heap[k]? := fun k hk' => hk.fix k ((fun k hk' => est2_fix (Nat.lt_of_lt_of_le hk' hB) (fun e => e.elim) (fun e => e.elim)) k hk')
    have hsz := hk.world.size
    have y3 := hin3.same (w' := w) (fun k hk' _ => hfx k hk')
    have y4 := hin4.same (w' := w) (fun k hk' _ => hfx k hk')
    have y5 := hin5.same (w' := w) (fun k hk' _ => hfx k hk')
    exact obE_loadRow rfl e3 x3 Try.underlying28 rfl (by kernel_rfl) (wanted_none rfl) rfl
  · refine ⟨⟨fun τ => stableE_det _, leans_not⟩, ?_⟩
    intro a w O hk
    have e4 : a.eval (.tmp 4) = .pointer (some ⟨gu, 0, none⟩) := (hk.init 4 (initialB_of_nw nw4)).trans hi4
    have x3 := hk.world.still hx3 (fun ⟨_, h⟩ => h.elim And.right And.right)
    have x4 := hk.world.still hx4 (fun ⟨_, h⟩ => h.elim And.right And.right)
    have x5 := hk.world.still hx5 (fun ⟨_, h⟩ => h.elim And.right And.right)
    have hfx : ∀ k, k < B → w.heap[k]? = w0.heap[k]? := fun k hk' => hk.fix k ((fun k hk' => est2_fix (Nat.lt_of_lt_of_le hk' hB) (fun e => e.elim) (fun e => e.elim)) k hk')
    have hsz := hk.world.size
    have y3 := hin3.same (w' := w) (fun k hk' _ => hfx k hk')
    have y4 := hin4.same (w' := w) (fun k hk' _ => hfx k hk')
    have y5 := hin5.same (w' := w) (fun k hk' _ => hfx k hk')
    exact obE_loadRow rfl e4 x4 Try.underlying28 rfl (by kernel_rfl) (wanted_none rfl) rfl
  · refine ⟨⟨fun τ => stableE_det _, leans_not⟩, ?_⟩
    intro a w O hk
    have e5 : a.eval (.tmp 5) = .pointer (some ⟨gv, 0, none⟩) := (hk.init 5 (initialB_of_nw nw5)).trans hi5
    have x3 := hk.world.still hx3 (fun ⟨_, h⟩ => h.elim And.right And.right)
    have x4 := hk.world.still hx4 (fun ⟨_, h⟩ => h.elim And.right And.right)
    have x5 := hk.world.still hx5 (fun ⟨_, h⟩ => h.elim And.right And.right)
    have hfx : ∀ k, k < B → w.heap[k]? = w0.heap[k]? := fun k hk' => hk.fix k ((fun k hk' => est2_fix (Nat.lt_of_lt_of_le hk' hB) (fun e => e.elim) (fun e => e.elim)) k hk')
    have hsz := hk.world.size
    have y3 := hin3.same (w' := w) (fun k hk' _ => hfx k hk')
    have y4 := hin4.same (w' := w) (fun k hk' _ => hfx k hk')
    have y5 := hin5.same (w' := w) (fun k hk' _ => hfx k hk')
    exact obE_loadRow rfl e5 x5 Try.underlying28 rfl (by kernel_rfl) (wanted_none rfl) rfl
  · refine ⟨⟨fun τ => stableE_ex fun p => stableE_and stableE_pure (stableE_block _ _), leans_not⟩, ?_⟩
    intro a w O hk
    have e10 : a.eval (.tmp 10) = tmV pt tt := hk.fact 0 _ 10 rfl rfl rfl rfl
    have e11 : a.eval (.tmp 11) = tmV pu tu := hk.fact 1 _ 11 rfl rfl rfl rfl
    have e12 : a.eval (.tmp 12) = tmV pv tv := hk.fact 2 _ 12 rfl rfl rfl rfl
    have x3 := hk.world.still hx3 (fun ⟨_, h⟩ => h.elim And.right And.right)
    have x4 := hk.world.still hx4 (fun ⟨_, h⟩ => h.elim And.right And.right)
    have x5 := hk.world.still hx5 (fun ⟨_, h⟩ => h.elim And.right And.right)
    have hfx : ∀ k, k < B → w.heap[k]? = w0.heap[k]? := fun k hk' => hk.fix k ((fun k hk' => est2_fix (Nat.lt_of_lt_of_le hk' hB) (fun e => e.elim) (fun e => e.elim)) k hk')
    have hsz := hk.world.size
    have y3 := hin3.same (w' := w) (fun k hk' _ => hfx k hk')
    have y4 := hin4.same (w' := w) (fun k hk' _ => hfx k hk')
    have y5 := hin5.same (w' := w) (fun k hk' _ => hfx k hk')
    exact obE_res (w' := w.alloc (.cells (tmC pt tt ++ tmC pu tu ++ tmC pv tv).toArray 28 (0, 0))) (fun k => k = w.heap.size) (wanted_none rfl) (by unfold execOp; simp only [List.map_toArray, List.map_cons, List.map_nil, e10, e11, e12]; unfold tmV; go_simp; rfl) (Chg.of_below ((Below.refl _ _).alloc (Nat.le_refl _) _)) ⟨_, rfl, blk_new _ _, rfl⟩ (fun k hk => .inr ⟨by omega, by simp; omega⟩)
  · refine ⟨⟨fun τ => stableE_det _, leans_not⟩, ?_⟩
    intro a w O hk
    have f13 := hk.fact 3 _ 13 rfl rfl rfl rfl
    have g13 := hk.owns 3 rfl rfl
    have x3 := hk.world.still hx3 (fun ⟨_, h⟩ => h.elim And.right And.right)
    have x4 := hk.world.still hx4 (fun ⟨_, h⟩ => h.elim And.right And.right)
    have x5 := hk.world.still hx5 (fun ⟨_, h⟩ => h.elim And.right And.right)
    have hfx : ∀ k, k < B → w.heap[k]? = w0.heap[k]? := fun k hk' => hk.fix k ((fun k hk' => est2_fix (Nat.lt_of_lt_of_le hk' hB) (fun e => e.elim) (fun e => e.elim)) k hk')
    have hsz := hk.world.size
    have y3 := hin3.same (w' := w) (fun k hk' _ => hfx k hk')
    have y4 := hin4.same (w' := w) (fun k hk' _ => hfx k hk')
    have y5 := hin5.same (w' := w) (fun k hk' _ => hfx k hk')
    obtain ⟨r13, z13, x13, -⟩ := f13
    replace z13 : a.eval (.tmp 13) = _ := z13
    exact obE_callV #[.slice (some ⟨r13, 0, none⟩) 3 3] rfl rfl rfl rfl (by simp only [List.map_cons, List.map_nil]; rw [z13]) (wanted_none rfl) ((whole_calls B (some ⟨r13, 0, none⟩) 3 3 _ [tt, tu, tv] w (Nat.le_trans hB hsz) rfl (by decide) (let_row x13 y3 y4 y5)).mono fun e w' h => ⟨by rw [h.1, hwb], h.2⟩)
  · refine ⟨⟨fun τ => stableE_det _, leans_not⟩, ?_⟩
    intro a w O hk
    have e14 : a.eval (.tmp 14) = .bool true := hk.fact 4 _ 14 rfl rfl rfl rfl
    have x3 := hk.world.still hx3 (fun ⟨_, h⟩ => h.elim And.right And.right)
    have x4 := hk.world.still hx4 (fun ⟨_, h⟩ => h.elim And.right And.right)
    have x5 := hk.world.still hx5 (fun ⟨_, h⟩ => h.elim And.right And.right)
    have hfx : ∀ k, k < B → w.heap[k]? = w0.heap[k]? := fun k hk' => hk.fix k ((fun k hk' => est2_fix (Nat.lt_of_lt_of_le hk' hB) (fun e => e.elim) (fun e => e.elim)) k hk')
    have hsz := hk.world.size
    have y3 := hin3.same (w' := w) (fun k hk' _ => hfx k hk')
    have y4 := hin4.same (w' := w) (fun k hk' _ => hfx k hk')
    have y5 := hin5.same (w' := w) (fun k hk' _ => hfx k hk')
    exact obE_run (wanted_none rfl) (by unfold execOp; simp only []; rw [e14]; go_simp) rfl
  · refine ⟨⟨fun τ => stableE_det _, leans_not⟩, ?_⟩
    intro a w O hk
    have e15 : a.eval (.tmp 15) = .bool false := hk.fact 5 _ 15 rfl rfl rfl rfl
    exact toE (ob_move rfl e15 (wanted_none rfl) rfl)
  · refine ⟨⟨fun τ => stableE_det _, leans_not⟩, ?_⟩
    intro a w O hk
    have e3 : a.eval (.tmp 3) = .pointer (some ⟨gt, 0, none⟩) := (hk.init 3 (initialB_of_nw nw3)).trans hi3
    have e16 : a.eval (.tmp 16) = .bool false := hk.fact 6 _ 16 rfl rfl rfl rfl
    have x3 := hk.world.still hx3 (fun ⟨_, h⟩ => h.elim And.right And.right)
    have x4 := hk.world.still hx4 (fun ⟨_, h⟩ => h.elim And.right And.right)
    have x5 := hk.world.still hx5 (fun ⟨_, h⟩ => h.elim And.right And.right)
    have hfx : ∀ k, k < B → w.heap[k]? = w0.heap[k]? := fun k hk' => hk.fix k ((fun k hk' => est2_fix (Nat.lt_of_lt_of_le hk' hB) (fun e => e.elim) (fun e => e.elim)) k hk')
    have hsz := hk.world.size
    have y3 := hin3.same (w' := w) (fun k hk' _ => hfx k hk')
    have y4 := hin4.same (w' := w) (fun k hk' _ => hfx k hk')
    have y5 := hin5.same (w' := w) (fun k hk' _ => hfx k hk')
    exact obE_loadRow rfl e3 x3 Try.underlying28 rfl (by kernel_rfl) (wanted_of rfl rfl rfl e16) rfl
  · refine ⟨⟨fun τ => stableE_det _, leans_not⟩, ?_⟩
    intro a w O hk
    have e17 : a.eval (.tmp 17) = tmV pt tt := hk.fact 7 _ 17 rfl rfl rfl rfl
    have e16 : a.eval (.tmp 16) = .bool false := hk.fact 6 _ 16 rfl rfl rfl rfl
    have x3 := hk.world.still hx3 (fun ⟨_, h⟩ => h.elim And.right And.right)
    have x4 := hk.world.still hx4 (fun ⟨_, h⟩ => h.elim And.right And.right)
    have x5 := hk.world.still hx5 (fun ⟨_, h⟩ => h.elim And.right And.right)
    have hfx : ∀ k, k < B → w.heap[k]? = w0.heap[k]? := fun k hk' => hk.fix k ((fun k hk' => est2_fix (Nat.lt_of_lt_of_le hk' hB) (fun e => e.elim) (fun e => e.elim)) k hk')
    have hsz := hk.world.size
    have y3 := hin3.same (w' := w) (fun k hk' _ => hfx k hk')
    have y4 := hin4.same (w' := w) (fun k hk' _ => hfx k hk')
    have y5 := hin5.same (w' := w) (fun k hk' _ => hfx k hk')
    exact obE_callV #[tmV pt tt] rfl rfl rfl rfl (by simp only [List.map_cons, List.map_nil]; rw [e17]; try rfl) (wanted_of rfl rfl rfl e16) ((refSize_calls tt pt w (TmIn.mono y3 (Nat.le_trans hB hsz))).mono fun e w' h => ⟨by rw [h.1, ha], h.2⟩)
  · refine ⟨⟨fun τ => stableE_det _, leans_not⟩, ?_⟩
    intro a w O hk
    have e4 : a.eval (.tmp 4) = .pointer (some ⟨gu, 0, none⟩) := (hk.init 4 (initialB_of_nw nw4)).trans hi4
    have e16 : a.eval (.tmp 16) = .bool false := hk.fact 6 _ 16 rfl rfl rfl rfl
    have x3 := hk.world.still hx3 (fun ⟨_, h⟩ => h.elim And.right And.right)
    have x4 := hk.world.still hx4 (fun ⟨_, h⟩ => h.elim And.right And.right)
    have x5 := hk.world.still hx5 (fun ⟨_, h⟩ => h.elim And.right And.right)
    have hfx : ∀ k, k < B → w.heap[k]? = w0.heap[k]? := fun k hk' => hk.fix k ((fun k hk' => est2_fix (Nat.lt_of_lt_of_le hk' hB) (fun e => e.elim) (fun e => e.elim)) k hk')
    have hsz := hk.world.size
    have y3 := hin3.same (w' := w) (fun k hk' _ => hfx k hk')
    have y4 := hin4.same (w' := w) (fun k hk' _ => hfx k hk')
    have y5 := hin5.same (w' := w) (fun k hk' _ => hfx k hk')
    exact obE_loadRow rfl e4 x4 Try.underlying28 rfl (by kernel_rfl) (wanted_of rfl rfl rfl e16) rfl
  · refine ⟨⟨fun τ => stableE_det _, leans_not⟩, ?_⟩
    intro a w O hk
    have e19 : a.eval (.tmp 19) = tmV pu tu := hk.fact 9 _ 19 rfl rfl rfl rfl
    have e16 : a.eval (.tmp 16) = .bool false := hk.fact 6 _ 16 rfl rfl rfl rfl
    have x3 := hk.world.still hx3 (fun ⟨_, h⟩ => h.elim And.right And.right)
    have x4 := hk.world.still hx4 (fun ⟨_, h⟩ => h.elim And.right And.right)
    have x5 := hk.world.still hx5 (fun ⟨_, h⟩ => h.elim And.right And.right)
    have hfx : ∀ k, k < B → w.heap[k]? = w0.heap[k]? := fun k hk' => hk.fix k ((fun k hk' => est2_fix (Nat.lt_of_lt_of_le hk' hB) (fun e => e.elim) (fun e => e.elim)) k hk')
    have hsz := hk.world.size
    have y3 := hin3.same (w' := w) (fun k hk' _ => hfx k hk')
    have y4 := hin4.same (w' := w) (fun k hk' _ => hfx k hk')
    have y5 := hin5.same (w' := w) (fun k hk' _ => hfx k hk')
    exact obE_callV #[tmV pu tu] rfl rfl rfl rfl (by simp only [List.map_cons, List.map_nil]; rw [e19]; try rfl) (wanted_of rfl rfl rfl e16) ((refSize_calls tu pu w (TmIn.mono y4 (Nat.le_trans hB hsz))).mono fun e w' h => ⟨by rw [h.1, hb], h.2⟩)
  · refine ⟨⟨fun τ => stableE_det _, leans_not⟩, ?_⟩
    intro a w O hk
    have e18 : a.eval (.tmp 18) = .int .i64 sa := hk.fact 8 _ 18 rfl rfl rfl rfl
    have e20 : a.eval (.tmp 20) = .int .i64 sb := hk.fact 10 _ 20 rfl rfl rfl rfl
    have e16 : a.eval (.tmp 16) = .bool false := hk.fact 6 _ 16 rfl rfl rfl rfl
    have x3 := hk.world.still hx3 (fun ⟨_, h⟩ => h.elim And.right And.right)
    have x4 := hk.world.still hx4 (fun ⟨_, h⟩ => h.elim And.right And.right)
    have x5 := hk.world.still hx5 (fun ⟨_, h⟩ => h.elim And.right And.right)
    have hfx : ∀ k, k < B → w.heap[k]? = w0.heap[k]? := fun k hk' => hk.fix k ((fun k hk' => est2_fix (Nat.lt_of_lt_of_le hk' hB) (fun e => e.elim) (fun e => e.elim)) k hk')
    have hsz := hk.world.size
    have y3 := hin3.same (w' := w) (fun k hk' _ => hfx k hk')
    have y4 := hin4.same (w' := w) (fun k hk' _ => hfx k hk')
    have y5 := hin5.same (w' := w) (fun k hk' _ => hfx k hk')
    have hw9 : IntKind.i64.wrap (sa * sb) = sa * sb := IntWalk.i64_in _ (by omega)
    exact obE_run (wanted_of rfl rfl rfl e16) (by unfold execOp; simp only []; rw [e18, e20]; go_simp) rfl
  · refine ⟨⟨fun τ => stableE_det _, leans_not⟩, ?_⟩
    intro a w O hk
    have e21 : a.eval (.tmp 21) = .int .i64 (sa * sb) := hk.fact 11 _ 21 rfl rfl rfl rfl
    have e16 : a.eval (.tmp 16) = .bool false := hk.fact 6 _ 16 rfl rfl rfl rfl
    have x3 := hk.world.still hx3 (fun ⟨_, h⟩ => h.elim And.right And.right)
    have x4 := hk.world.still hx4 (fun ⟨_, h⟩ => h.elim And.right And.right)
    have x5 := hk.world.still hx5 (fun ⟨_, h⟩ => h.elim And.right And.right)
    have hfx : ∀ k, k < B → w.heap[k]? = w0.heap[k]? := fun k hk' => hk.fix k ((fun k hk' => est2_fix (Nat.lt_of_lt_of_le hk' hB) (fun e => e.elim) (fun e => e.elim)) k hk')
    have hsz := hk.world.size
    have y3 := hin3.same (w' := w) (fun k hk' _ => hfx k hk')
    have y4 := hin4.same (w' := w) (fun k hk' _ => hfx k hk')
    have y5 := hin5.same (w' := w) (fun k hk' _ => hfx k hk')
    exact obE_run (wanted_of rfl rfl rfl e16) (by unfold execOp; simp only []; rw [e21]; go_simp <;> (simp <;> omega)) rfl
  · refine ⟨⟨fun τ => stableE_det _, leans_not⟩, ?_⟩
    intro a w O hk
    have e16 : a.eval (.tmp 16) = .bool false := hk.fact 6 _ 16 rfl rfl rfl rfl
    have e22 : a.eval (.tmp 22) = .bool false := hk.fact 12 _ 22 rfl rfl rfl rfl
    exact toE (ob_pick rfl e16 e22 (wanted_none rfl) rfl)
  · refine ⟨⟨fun τ => stableE_det _, leans_not⟩, ?_⟩
    intro a w O hk
    have e23 : a.eval (.tmp 23) = .bool false := hk.fact 13 _ 23 rfl rfl rfl rfl
    exact toE (ob_move rfl e23 (wanted_none rfl) rfl)
  · refine ⟨⟨fun τ => stableE_det _, leans_not⟩, ?_⟩
    intro a w O hk
    have e3 : a.eval (.tmp 3) = .pointer (some ⟨gt, 0, none⟩) := (hk.init 3 (initialB_of_nw nw3)).trans hi3
    have e24 : a.eval (.tmp 24) = .bool false := hk.fact 14 _ 24 rfl rfl rfl rfl
    have x3 := hk.world.still hx3 (fun ⟨_, h⟩ => h.elim And.right And.right)
    have x4 := hk.world.still hx4 (fun ⟨_, h⟩ => h.elim And.right And.right)
    have x5 := hk.world.still hx5 (fun ⟨_, h⟩ => h.elim And.right And.right)
    have hfx : ∀ k, k < B → w.heap[k]? = w0.heap[k]? := fun k hk' => hk.fix k ((fun k hk' => est2_fix (Nat.lt_of_lt_of_le hk' hB) (fun e => e.elim) (fun e => e.elim)) k hk')
    have hsz := hk.world.size
    have y3 := hin3.same (w' := w) (fun k hk' _ => hfx k hk')
    have y4 := hin4.same (w' := w) (fun k hk' _ => hfx k hk')
    have y5 := hin5.same (w' := w) (fun k hk' _ => hfx k hk')
    exact obE_loadRow rfl e3 x3 Try.underlying28 rfl (by kernel_rfl) (wanted_of rfl rfl rfl e24) rfl
  · refine ⟨⟨fun τ => stableE_det _, leans_not⟩, ?_⟩
    intro a w O hk
    have e25 : a.eval (.tmp 25) = tmV pt tt := hk.fact 15 _ 25 rfl rfl rfl rfl
    have e24 : a.eval (.tmp 24) = .bool false := hk.fact 14 _ 24 rfl rfl rfl rfl
    have x3 := hk.world.still hx3 (fun ⟨_, h⟩ => h.elim And.right And.right)
    have x4 := hk.world.still hx4 (fun ⟨_, h⟩ => h.elim And.right And.right)
    have x5 := hk.world.still hx5 (fun ⟨_, h⟩ => h.elim And.right And.right)
    have hfx : ∀ k, k < B → w.heap[k]? = w0.heap[k]? := fun k hk' => hk.fix k ((fun k hk' => est2_fix (Nat.lt_of_lt_of_le hk' hB) (fun e => e.elim) (fun e => e.elim)) k hk')
    have hsz := hk.world.size
    have y3 := hin3.same (w' := w) (fun k hk' _ => hfx k hk')
    have y4 := hin4.same (w' := w) (fun k hk' _ => hfx k hk')
    have y5 := hin5.same (w' := w) (fun k hk' _ => hfx k hk')
    exact obE_callV #[tmV pt tt] rfl rfl rfl rfl (by simp only [List.map_cons, List.map_nil]; rw [e25]; try rfl) (wanted_of rfl rfl rfl e24) ((refSize_calls tt pt w (TmIn.mono y3 (Nat.le_trans hB hsz))).mono fun e w' h => ⟨by rw [h.1, ha], h.2⟩)
  · refine ⟨⟨fun τ => stableE_det _, leans_not⟩, ?_⟩
    intro a w O hk
    have e4 : a.eval (.tmp 4) = .pointer (some ⟨gu, 0, none⟩) := (hk.init 4 (initialB_of_nw nw4)).trans hi4
    have e24 : a.eval (.tmp 24) = .bool false := hk.fact 14 _ 24 rfl rfl rfl rfl
    have x3 := hk.world.still hx3 (fun ⟨_, h⟩ => h.elim And.right And.right)
    have x4 := hk.world.still hx4 (fun ⟨_, h⟩ => h.elim And.right And.right)
    have x5 := hk.world.still hx5 (fun ⟨_, h⟩ => h.elim And.right And.right)
    have hfx : ∀ k, k < B → w.heap[k]? = w0.heap[k]? := fun k hk' => hk.fix k ((fun k hk' => est2_fix (Nat.lt_of_lt_of_le hk' hB) (fun e => e.elim) (fun e => e.elim)) k hk')
    have hsz := hk.world.size
    have y3 := hin3.same (w' := w) (fun k hk' _ => hfx k hk')
    have y4 := hin4.same (w' := w) (fun k hk' _ => hfx k hk')
    have y5 := hin5.same (w' := w) (fun k hk' _ => hfx k hk')
    exact obE_loadRow rfl e4 x4 Try.underlying28 rfl (by kernel_rfl) (wanted_of rfl rfl rfl e24) rfl
  · refine ⟨⟨fun τ => stableE_det _, leans_not⟩, ?_⟩
    intro a w O hk
    have e27 : a.eval (.tmp 27) = tmV pu tu := hk.fact 17 _ 27 rfl rfl rfl rfl
    have e24 : a.eval (.tmp 24) = .bool false := hk.fact 14 _ 24 rfl rfl rfl rfl
    have x3 := hk.world.still hx3 (fun ⟨_, h⟩ => h.elim And.right And.right)
    have x4 := hk.world.still hx4 (fun ⟨_, h⟩ => h.elim And.right And.right)
    have x5 := hk.world.still hx5 (fun ⟨_, h⟩ => h.elim And.right And.right)
    have hfx : ∀ k, k < B → w.heap[k]? = w0.heap[k]? := fun k hk' => hk.fix k ((fun k hk' => est2_fix (Nat.lt_of_lt_of_le hk' hB) (fun e => e.elim) (fun e => e.elim)) k hk')
    have hsz := hk.world.size
    have y3 := hin3.same (w' := w) (fun k hk' _ => hfx k hk')
    have y4 := hin4.same (w' := w) (fun k hk' _ => hfx k hk')
    have y5 := hin5.same (w' := w) (fun k hk' _ => hfx k hk')
    exact obE_callV #[tmV pu tu] rfl rfl rfl rfl (by simp only [List.map_cons, List.map_nil]; rw [e27]; try rfl) (wanted_of rfl rfl rfl e24) ((refSize_calls tu pu w (TmIn.mono y4 (Nat.le_trans hB hsz))).mono fun e w' h => ⟨by rw [h.1, hb], h.2⟩)
  · refine ⟨⟨fun τ => stableE_det _, leans_not⟩, ?_⟩
    intro a w O hk
    have e26 : a.eval (.tmp 26) = .int .i64 sa := hk.fact 16 _ 26 rfl rfl rfl rfl
    have e28 : a.eval (.tmp 28) = .int .i64 sb := hk.fact 18 _ 28 rfl rfl rfl rfl
    have e24 : a.eval (.tmp 24) = .bool false := hk.fact 14 _ 24 rfl rfl rfl rfl
    have x3 := hk.world.still hx3 (fun ⟨_, h⟩ => h.elim And.right And.right)
    have x4 := hk.world.still hx4 (fun ⟨_, h⟩ => h.elim And.right And.right)
    have x5 := hk.world.still hx5 (fun ⟨_, h⟩ => h.elim And.right And.right)
    have hfx : ∀ k, k < B → w.heap[k]? = w0.heap[k]? := fun k hk' => hk.fix k ((fun k hk' => est2_fix (Nat.lt_of_lt_of_le hk' hB) (fun e => e.elim) (fun e => e.elim)) k hk')
    have hsz := hk.world.size
    have y3 := hin3.same (w' := w) (fun k hk' _ => hfx k hk')
    have y4 := hin4.same (w' := w) (fun k hk' _ => hfx k hk')
    have y5 := hin5.same (w' := w) (fun k hk' _ => hfx k hk')
    have hw9 : IntKind.i64.wrap (sa * sb) = sa * sb := IntWalk.i64_in _ (by omega)
    exact obE_run (wanted_of rfl rfl rfl e24) (by unfold execOp; simp only []; rw [e26, e28]; go_simp) rfl
  · refine ⟨⟨fun τ => stableE_det _, leans_not⟩, ?_⟩
    intro a w O hk
    have e5 : a.eval (.tmp 5) = .pointer (some ⟨gv, 0, none⟩) := (hk.init 5 (initialB_of_nw nw5)).trans hi5
    have e24 : a.eval (.tmp 24) = .bool false := hk.fact 14 _ 24 rfl rfl rfl rfl
    have x3 := hk.world.still hx3 (fun ⟨_, h⟩ => h.elim And.right And.right)
    have x4 := hk.world.still hx4 (fun ⟨_, h⟩ => h.elim And.right And.right)
    have x5 := hk.world.still hx5 (fun ⟨_, h⟩ => h.elim And.right And.right)
    have hfx : ∀ k, k < B → w.heap[k]? = w0.heap[k]? := fun k hk' => hk.fix k ((fun k hk' => est2_fix (Nat.lt_of_lt_of_le hk' hB) (fun e => e.elim) (fun e => e.elim)) k hk')
    have hsz := hk.world.size
    have y3 := hin3.same (w' := w) (fun k hk' _ => hfx k hk')
    have y4 := hin4.same (w' := w) (fun k hk' _ => hfx k hk')
    have y5 := hin5.same (w' := w) (fun k hk' _ => hfx k hk')
    exact obE_loadRow rfl e5 x5 Try.underlying28 rfl (by kernel_rfl) (wanted_of rfl rfl rfl e24) rfl
  · refine ⟨⟨fun τ => stableE_det _, leans_not⟩, ?_⟩
    intro a w O hk
    have e30 : a.eval (.tmp 30) = tmV pv tv := hk.fact 20 _ 30 rfl rfl rfl rfl
    have e24 : a.eval (.tmp 24) = .bool false := hk.fact 14 _ 24 rfl rfl rfl rfl
    have x3 := hk.world.still hx3 (fun ⟨_, h⟩ => h.elim And.right And.right)
    have x4 := hk.world.still hx4 (fun ⟨_, h⟩ => h.elim And.right And.right)
    have x5 := hk.world.still hx5 (fun ⟨_, h⟩ => h.elim And.right And.right)
    have hfx : ∀ k, k < B → w.heap[k]? = w0.heap[k]? := fun k hk' => hk.fix k ((fun k hk' => est2_fix (Nat.lt_of_lt_of_le hk' hB) (fun e => e.elim) (fun e => e.elim)) k hk')
    have hsz := hk.world.size
    have y3 := hin3.same (w' := w) (fun k hk' _ => hfx k hk')
    have y4 := hin4.same (w' := w) (fun k hk' _ => hfx k hk')
    have y5 := hin5.same (w' := w) (fun k hk' _ => hfx k hk')
    exact obE_callV #[tmV pv tv] rfl rfl rfl rfl (by simp only [List.map_cons, List.map_nil]; rw [e30]; try rfl) (wanted_of rfl rfl rfl e24) ((refSize_calls tv pv w (TmIn.mono y5 (Nat.le_trans hB hsz))).mono fun e w' h => ⟨by rw [h.1, hc], h.2⟩)
  · refine ⟨⟨fun τ => stableE_det _, leans_not⟩, ?_⟩
    intro a w O hk
    have e29 : a.eval (.tmp 29) = .int .i64 (sa * sb) := hk.fact 19 _ 29 rfl rfl rfl rfl
    have e31 : a.eval (.tmp 31) = .int .i64 sc := hk.fact 21 _ 31 rfl rfl rfl rfl
    have e24 : a.eval (.tmp 24) = .bool false := hk.fact 14 _ 24 rfl rfl rfl rfl
    have x3 := hk.world.still hx3 (fun ⟨_, h⟩ => h.elim And.right And.right)
    have x4 := hk.world.still hx4 (fun ⟨_, h⟩ => h.elim And.right And.right)
    have x5 := hk.world.still hx5 (fun ⟨_, h⟩ => h.elim And.right And.right)
    have hfx : ∀ k, k < B → w.heap[k]? = w0.heap[k]? := fun k hk' => hk.fix k ((fun k hk' => est2_fix (Nat.lt_of_lt_of_le hk' hB) (fun e => e.elim) (fun e => e.elim)) k hk')
    have hsz := hk.world.size
    have y3 := hin3.same (w' := w) (fun k hk' _ => hfx k hk')
    have y4 := hin4.same (w' := w) (fun k hk' _ => hfx k hk')
    have y5 := hin5.same (w' := w) (fun k hk' _ => hfx k hk')
    have hw9 : IntKind.i64.wrap (sa * sb * sc) = sa * sb * sc := IntWalk.i64_in _ (by omega)
    exact obE_run (wanted_of rfl rfl rfl e24) (by unfold execOp; simp only []; rw [e29, e31]; go_simp) rfl
  · refine ⟨⟨fun τ => stableE_det _, leans_not⟩, ?_⟩
    intro a w O hk
    have e32 : a.eval (.tmp 32) = .int .i64 (sa * sb * sc) := hk.fact 22 _ 32 rfl rfl rfl rfl
    have e24 : a.eval (.tmp 24) = .bool false := hk.fact 14 _ 24 rfl rfl rfl rfl
    have x3 := hk.world.still hx3 (fun ⟨_, h⟩ => h.elim And.right And.right)
    have x4 := hk.world.still hx4 (fun ⟨_, h⟩ => h.elim And.right And.right)
    have x5 := hk.world.still hx5 (fun ⟨_, h⟩ => h.elim And.right And.right)
    have hfx : ∀ k, k < B → w.heap[k]? = w0.heap[k]? := fun k hk' => hk.fix k ((fun k hk' => est2_fix (Nat.lt_of_lt_of_le hk' hB) (fun e => e.elim) (fun e => e.elim)) k hk')
    have hsz := hk.world.size
    have y3 := hin3.same (w' := w) (fun k hk' _ => hfx k hk')
    have y4 := hin4.same (w' := w) (fun k hk' _ => hfx k hk')
    have y5 := hin5.same (w' := w) (fun k hk' _ => hfx k hk')
    exact obE_run (wanted_of rfl rfl rfl e24) (by unfold execOp; simp only []; rw [e32]; go_simp <;> (simp <;> omega)) rfl
  · refine ⟨⟨fun τ => stableE_det _, leans_not⟩, ?_⟩
    intro a w O hk
    have e24 : a.eval (.tmp 24) = .bool false := hk.fact 14 _ 24 rfl rfl rfl rfl
    have e33 : a.eval (.tmp 33) = .bool true := hk.fact 23 _ 33 rfl rfl rfl rfl
    exact toE (ob_pick rfl e24 e33 (wanted_none rfl) rfl)
set_option maxRecDepth 100000 in
set_option maxHeartbeats 8000000 in
theorem tp1c_region {Q : Exit → Act → World → Prop} {id : Nat} (w0 : World) (B : Nat) (gt : Nat) (pt : Pl) (tt : Tm) (gu : Nat) (pu : Pl) (tu : Tm) (gv : Nat) (pv : Pl) (tv : Tm) (sa sb sc : Int) {s0 s1 s2 s6 s7 s8 s9 s10 s11 s12 s13 s14 s15 s16 s17 s18 s19 s20 s21 s22 s23 s24 s25 s26 s27 s28 s29 s30 s31 s32 s33 s34 s35 s36 s37 s38 s39 s40 s41 s42 s43 s44 s45 s46 s47 s48 s49 s50 s51 s52 s53 s54 s55 s56 s57 s58 s59 s60 s61 s62 s63 s64 s65 s66 s67 s68 : Value} (hB : B ≤ w0.heap.size) (hx3 : w0.heap[gt]? = some (tmO pt tt)) (hin3 : TmIn w0 B pt tt) (hx4 : w0.heap[gu]? = some (tmO pu tu)) (hin4 : TmIn w0 B pu tu) (hx5 : w0.heap[gv]? = some (tmO pv tv)) (hin5 : TmIn w0 B pv tv) (hwb : wholeB [tt, tu, tv] = true) (ha : (measP tt).1 = sa) (hb : (measP tu).1 = sb) (hc : (measP tv).1 = sc) (hm1 : 0 ≤ sa * sb ∧ sa * sb ≤ 1000000) (hm2 : 0 ≤ sa * sb * sc ∧ sa * sb * sc ≤ 1000000000) (hg1 : ¬ 15000 < sa * sb) (hg2 : 15000 < sa * sb * sc)
    (hend : ∀ (w' : World) (u13 : Value) (O3 : Nat → Prop), Chg (fun k => False ∨ False) w0 w' → (∃ p, u13 = .slice (some ⟨p, 0, none⟩) 3 3 ∧ w'.heap[p]? = some (.cells (tmC pt tt ++ tmC pu tu ++ tmC pv tv).toArray 28 (0, 0)) ∧ O3 p) → (∀ k, O3 k → k < w'.heap.size ∧ ¬ Fix w0 (est2 0 0 (fun _ => False) (fun _ => False)) k) → Q .normal { tmps := (s0 :: s1 :: s2 :: (.pointer (some ⟨gt, 0, none⟩)) :: (.pointer (some ⟨gu, 0, none⟩)) :: (.pointer (some ⟨gv, 0, none⟩)) :: s6 :: s7 :: s8 :: s9 :: (tmV pt tt) :: (tmV pu tu) :: (tmV pv tv) :: u13 :: (.bool true) :: (.bool false) :: (.bool false) :: (tmV pt tt) :: (.int .i64 sa) :: (tmV pu tu) :: (.int .i64 sb) :: (.int .i64 (sa * sb)) :: (.bool false) :: (.bool false) :: (.bool false) :: (tmV pt tt) :: (.int .i64 sa) :: (tmV pu tu) :: (.int .i64 sb) :: (.int .i64 (sa * sb)) :: (tmV pv tv) :: (.int .i64 sc) :: (.int .i64 (sa * sb * sc)) :: (.bool true) :: (.bool true) :: s35 :: s36 :: s37 :: s38 :: s39 :: s40 :: s41 :: s42 :: s43 :: s44 :: s45 :: s46 :: s47 :: s48 :: s49 :: s50 :: s51 :: s52 :: s53 :: s54 :: s55 :: s56 :: s57 :: s58 :: s59 :: s60 :: s61 :: s62 :: s63 :: s64 :: s65 :: s66 :: s67 :: s68 :: [] : List Value).toArray, defers := [] } w') :
    (Code.region id tp1n_ops.toArray true).wp Try.prog Q { tmps := (s0 :: s1 :: s2 :: (.pointer (some ⟨gt, 0, none⟩)) :: (.pointer (some ⟨gu, 0, none⟩)) :: (.pointer (some ⟨gv, 0, none⟩)) :: s6 :: s7 :: s8 :: s9 :: s10 :: s11 :: s12 :: s13 :: s14 :: s15 :: s16 :: s17 :: s18 :: s19 :: s20 :: s21 :: s22 :: s23 :: s24 :: s25 :: s26 :: s27 :: s28 :: s29 :: s30 :: s31 :: s32 :: s33 :: s34 :: s35 :: s36 :: s37 :: s38 :: s39 :: s40 :: s41 :: s42 :: s43 :: s44 :: s45 :: s46 :: s47 :: s48 :: s49 :: s50 :: s51 :: s52 :: s53 :: s54 :: s55 :: s56 :: s57 :: s58 :: s59 :: s60 :: s61 :: s62 :: s63 :: s64 :: s65 :: s66 :: s67 :: s68 :: [] : List Value).toArray, defers := [] } w0 := by
  refine wp_region_est (by kernel_rfl) (est2 0 0 (fun _ => False) (fun _ => False)) tp1c_C (tp1c_F w0 B gt pt tt gu pu tu gv pv tv sa sb sc) (est2_dis (fun _ h _ => h)) (est2_range (fun _ h => h.elim) (fun _ h => h.elim)) (by rfl) (by kernel_rfl) (tp1c_obs w0.drew B gt pt tt gu pu tu gv pv tv sa sb sc hB hx3 (TmS.same hin3 (fun _ _ _ => rfl)) hx4 (TmS.same hin4 (fun _ _ _ => rfl)) hx5 (TmS.same hin5 (fun _ _ _ => rfl)) hwb ha hb hc hm1 hm2 hg1 hg2 _ _ rfl rfl rfl) ?_
  intro a w' O hd hs hb hf hf2 ha hsame
  have hl := slots_eq (ops := tp1n_ops.toArray) [(10, tmV pt tt), (11, tmV pu tu), (12, tmV pv tv), (13, a.tmps.getD 13 undef), (14, .bool true), (15, .bool false), (16, .bool false), (17, tmV pt tt), (18, .int .i64 sa), (19, tmV pu tu), (20, .int .i64 sb), (21, .int .i64 (sa * sb)), (22, .bool false), (23, .bool false), (24, .bool false), (25, tmV pt tt), (26, .int .i64 sa), (27, tmV pu tu), (28, .int .i64 sb), (29, .int .i64 (sa * sb)), (30, tmV pv tv), (31, .int .i64 sc), (32, .int .i64 (sa * sb * sc)), (33, .bool true), (34, .bool true)] (show a.tmps.size = 69 from hs) (fun i h => hsame i h) ⟨(hf 0 _ 10 rfl rfl (by decide)).1, (hf 1 _ 11 rfl rfl (by decide)).1, (hf 2 _ 12 rfl rfl (by decide)).1, rfl, (hf 4 _ 14 rfl rfl (by decide)).1, (hf 5 _ 15 rfl rfl (by decide)).1, (hf 6 _ 16 rfl rfl (by decide)).1, (hf 7 _ 17 rfl rfl (by decide)).1, (hf 8 _ 18 rfl rfl (by decide)).1, (hf 9 _ 19 rfl rfl (by decide)).1, (hf 10 _ 20 rfl rfl (by decide)).1, (hf 11 _ 21 rfl rfl (by decide)).1, (hf 12 _ 22 rfl rfl (by decide)).1, (hf 13 _ 23 rfl rfl (by decide)).1, (hf 14 _ 24 rfl rfl (by decide)).1, (hf 15 _ 25 rfl rfl (by decide)).1, (hf 16 _ 26 rfl rfl (by decide)).1, (hf 17 _ 27 rfl rfl (by decide)).1, (hf 18 _ 28 rfl rfl (by decide)).1, (hf 19 _ 29 rfl rfl (by decide)).1, (hf 20 _ 30 rfl rfl (by decide)).1, (hf 21 _ 31 rfl rfl (by decide)).1, (hf 22 _ 32 rfl rfl (by decide)).1, (hf 23 _ 33 rfl rfl (by decide)).1, (hf 24 _ 34 rfl rfl (by decide)).1, trivial⟩ (by kernel_rfl)
  obtain ⟨tmps, defers⟩ := a
  obtain rfl : defers = [] := hd
  have hl' : tmps = _ := hl
  rw [hl']
  have hb' := est2_chg hb
  refine Eq.mp ?_ (hend w' (tmps.getD 13 undef) (O 3) ⟨hb'.os, hb'.tape, hb'.output, hb'.size, hb'.block⟩ (hf 3 _ 13 rfl rfl (by decide)).1 (hf 3 _ 13 rfl rfl (by decide)).2)
  kernel_rfl

def tp1d_F (w0 : World) (B : Nat) (gt : Nat) (pt : Pl) (tt : Tm) (gu : Nat) (pu : Pl) (tu : Tm) (gv : Nat) (pv : Pl) (tv : Tm) (sa sb sc : Int) : Nat → (Nat → Value) → Value → World → (Nat → Prop) → Prop := fun rix => match rix with
  | 0 => fun _ v _ _ => v = tmV pt tt
  | 1 => fun _ v _ _ => v = tmV pu tu
  | 2 => fun _ v _ _ => v = tmV pv tv
  | 3 => fun τ v w O => ∃ p, v = .slice (some ⟨p, 0, none⟩) 3 3 ∧ w.heap[p]? = some (.cells (tmC pt tt ++ tmC pu tu ++ tmC pv tv).toArray 28 (0, 0)) ∧ O p
  | 4 => fun _ v _ _ => v = .bool true
  | 5 => fun _ v _ _ => v = .bool false
  | 6 => fun _ v _ _ => v = .bool false
  | 7 => fun _ v _ _ => v = tmV pt tt
  | 8 => fun _ v _ _ => v = .int .i64 sa
  | 9 => fun _ v _ _ => v = tmV pu tu
  | 10 => fun _ v _ _ => v = .int .i64 sb
  | 11 => fun _ v _ _ => v = .int .i64 (sa * sb)
  | 12 => fun _ v _ _ => v = .bool false
  | 13 => fun _ v _ _ => v = .bool false
  | 14 => fun _ v _ _ => v = .bool false
  | 15 => fun _ v _ _ => v = tmV pt tt
  | 16 => fun _ v _ _ => v = .int .i64 sa
  | 17 => fun _ v _ _ => v = tmV pu tu
  | 18 => fun _ v _ _ => v = .int .i64 sb
  | 19 => fun _ v _ _ => v = .int .i64 (sa * sb)
  | 20 => fun _ v _ _ => v = tmV pv tv
  | 21 => fun _ v _ _ => v = .int .i64 sc
  | 22 => fun _ v _ _ => v = .int .i64 (sa * sb * sc)
  | 23 => fun _ v _ _ => v = .bool false
  | 24 => fun _ v _ _ => v = .bool false
  | _ => fun _ _ _ _ => True
def tp1d_C : Nat → List Nat := fun rix => match rix with
  | _ => []
theorem tp1d_nw3 : nwB tp1n_ops.toArray 3 = true := by kernel_rfl
theorem tp1d_nw4 : nwB tp1n_ops.toArray 4 = true := by kernel_rfl
theorem tp1d_nw5 : nwB tp1n_ops.toArray 5 = true := by kernel_rfl
set_option maxRecDepth 100000 in
set_option maxHeartbeats 8000000 in
theorem tp1d_obs (w0 : World) (B : Nat) (gt : Nat) (pt : Pl) (tt : Tm) (gu : Nat) (pu : Pl) (tu : Tm) (gv : Nat) (pv : Pl) (tv : Tm) (sa sb sc : Int) (hB : B ≤ w0.heap.size) (hx3 : w0.heap[gt]? = some (tmO pt tt)) (hin3 : TmIn w0 B pt tt) (hx4 : w0.heap[gu]? = some (tmO pu tu)) (hin4 : TmIn w0 B pu tu) (hx5 : w0.heap[gv]? = some (tmO pv tv)) (hin5 : TmIn w0 B pv tv) (hwb : wholeB [tt, tu, tv] = true) (ha : (measP tt).1 = sa) (hb : (measP tu).1 = sb) (hc : (measP tv).1 = sc) (hm1 : 0 ≤ sa * sb ∧ sa * sb ≤ 1000000) (hm2 : 0 ≤ sa * sb * sc ∧ sa * sb * sc ≤ 1000000000) (hg1 : ¬ 15000 < sa * sb) (hg2 : ¬ 15000 < sa * sb * sc) (Q : Exit → Act → World → Prop) (a0 : Act) (hi3 : a0.tmps.getD 3 undef = .pointer (some ⟨gt, 0, none⟩)) (hi4 : a0.tmps.getD 4 undef = .pointer (some ⟨gu, 0, none⟩)) (hi5 : a0.tmps.getD 5 undef = .pointer (some ⟨gv, 0, none⟩)) :
    ObsE Try.prog tp1n_ops.toArray Q (est2 0 0 (fun _ => False) (fun _ => False)) tp1d_C (tp1d_F w0 B gt pt tt gu pu tu gv pv tv sa sb sc) a0 w0 tp1n_ops.toArray.toList 0 := by
  have nw3 := tp1d_nw3
  have nw4 := tp1d_nw4
  have nw5 := tp1d_nw5
  refine ⟨?_, ?_, ?_, ?_, ?_, ?_, ?_, ?_, ?_, ?_, ?_, ?_, ?_, ?_, ?_, ?_, ?_, ?_, ?_, ?_, ?_, ?_, ?_, ?_, ?_, trivial⟩
  · refine ⟨⟨fun τ => stableE_det _, leans_not⟩, ?_⟩
    intro a w O hk
    have e3 : a.eval (.tmp 3) = .pointer (some ⟨gt, 0, none⟩) := (hk.init 3 (initialB_of_nw nw3)).trans hi3
    have x3 := hk.world.still hx3 (fun ⟨_, h⟩ => h.elim And.right And.right)
    have x4 := hk.world.still hx4 (fun ⟨_, h⟩ => h.elim And.right And.right)
    have x5 := hk.world.still hx5 (fun ⟨_, h⟩ => h.elim And.right And.right)
    have hfx : ∀ k, k < B → w.heap[k]? = w0.heap[k]? := fun k hk' => hk.fix k ((fun k hk' => est2_fix (Nat.lt_of_lt_of_le hk' hB) (fun e => e.elim) (fun e => e.elim)) k hk')
    have hsz := hk.world.size
    have y3 := hin3.same (w' := w) (fun k hk' _ => hfx k hk')
    have y4 := hin4.same (w' := w) (fun k hk' _ => hfx k hk')
    have y5 := hin5.same (w' := w) (fun k hk' _ => hfx k hk')
    exact obE_loadRow rfl e3 x3 Try.underlying28 rfl (by kernel_rfl) (wanted_none rfl) rfl
  · refine ⟨⟨fun τ => stableE_det _, leans_not⟩, ?_⟩
    intro a w O hk
    have e4 : a.eval (.tmp 4) = .pointer (some ⟨gu, 0, none⟩) := (hk.init 4 (initialB_of_nw nw4)).trans hi4
    have x3 := hk.world.still hx3 (fun ⟨_, h⟩ => h.elim And.right And.right)
    have x4 := hk.world.still hx4 (fun ⟨_, h⟩ => h.elim And.right And.right)
    have x5 := hk.world.still hx5 (fun ⟨_, h⟩ => h.elim And.right And.right)
    have hfx : ∀ k, k < B → w.heap[k]? = w0.heap[k]? := fun k hk' => hk.fix k ((fun k hk' => est2_fix (Nat.lt_of_lt_of_le hk' hB) (fun e => e.elim) (fun e => e.elim)) k hk')
    have hsz := hk.world.size
    have y3 := hin3.same (w' := w) (fun k hk' _ => hfx k hk')
    have y4 := hin4.same (w' := w) (fun k hk' _ => hfx k hk')
    have y5 := hin5.same (w' := w) (fun k hk' _ => hfx k hk')
    exact obE_loadRow rfl e4 x4 Try.underlying28 rfl (by kernel_rfl) (wanted_none rfl) rfl
  · refine ⟨⟨fun τ => stableE_det _, leans_not⟩, ?_⟩
    intro a w O hk
    have e5 : a.eval (.tmp 5) = .pointer (some ⟨gv, 0, none⟩) := (hk.init 5 (initialB_of_nw nw5)).trans hi5
    have x3 := hk.world.still hx3 (fun ⟨_, h⟩ => h.elim And.right And.right)
    have x4 := hk.world.still hx4 (fun ⟨_, h⟩ => h.elim And.right And.right)
    have x5 := hk.world.still hx5 (fun ⟨_, h⟩ => h.elim And.right And.right)
    have hfx : ∀ k, k < B → w.heap[k]? = w0.heap[k]? := fun k hk' => hk.fix k ((fun k hk' => est2_fix (Nat.lt_of_lt_of_le hk' hB) (fun e => e.elim) (fun e => e.elim)) k hk')
    have hsz := hk.world.size
    have y3 := hin3.same (w' := w) (fun k hk' _ => hfx k hk')
    have y4 := hin4.same (w' := w) (fun k hk' _ => hfx k hk')
    have y5 := hin5.same (w' := w) (fun k hk' _ => hfx k hk')
    exact obE_loadRow rfl e5 x5 Try.underlying28 rfl (by kernel_rfl) (wanted_none rfl) rfl
  · refine ⟨⟨fun τ => stableE_ex fun p => stableE_and stableE_pure (stableE_block _ _), leans_not⟩, ?_⟩
    intro a w O hk
    have e10 : a.eval (.tmp 10) = tmV pt tt := hk.fact 0 _ 10 rfl rfl rfl rfl
    have e11 : a.eval (.tmp 11) = tmV pu tu := hk.fact 1 _ 11 rfl rfl rfl rfl
    have e12 : a.eval (.tmp 12) = tmV pv tv := hk.fact 2 _ 12 rfl rfl rfl rfl
    have x3 := hk.world.still hx3 (fun ⟨_, h⟩ => h.elim And.right And.right)
    have x4 := hk.world.still hx4 (fun ⟨_, h⟩ => h.elim And.right And.right)
    have x5 := hk.world.still hx5 (fun ⟨_, h⟩ => h.elim And.right And.right)
    have hfx : ∀ k, k < B → w.heap[k]? = w0.heap[k]? := fun k hk' => hk.fix k ((fun k hk' => est2_fix (Nat.lt_of_lt_of_le hk' hB) (fun e => e.elim) (fun e => e.elim)) k hk')
    have hsz := hk.world.size
    have y3 := hin3.same (w' := w) (fun k hk' _ => hfx k hk')
    have y4 := hin4.same (w' := w) (fun k hk' _ => hfx k hk')
    have y5 := hin5.same (w' := w) (fun k hk' _ => hfx k hk')
    exact obE_res (w' := w.alloc (.cells (tmC pt tt ++ tmC pu tu ++ tmC pv tv).toArray 28 (0, 0))) (fun k => k = w.heap.size) (wanted_none rfl) (by unfold execOp; simp only [List.map_toArray, List.map_cons, List.map_nil, e10, e11, e12]; unfold tmV; go_simp; rfl) (Chg.of_below ((Below.refl _ _).alloc (Nat.le_refl _) _)) ⟨_, rfl, blk_new _ _, rfl⟩ (fun k hk => .inr ⟨by omega, by simp; omega⟩)
  · refine ⟨⟨fun τ => stableE_det _, leans_not⟩, ?_⟩
    intro a w O hk
    have f13 := hk.fact 3 _ 13 rfl rfl rfl rfl
    have g13 := hk.owns 3 rfl rfl
    have x3 := hk.world.still hx3 (fun ⟨_, h⟩ => h.elim And.right And.right)
    have x4 := hk.world.still hx4 (fun ⟨_, h⟩ => h.elim And.right And.right)
    have x5 := hk.world.still hx5 (fun ⟨_, h⟩ => h.elim And.right And.right)
    have hfx : ∀ k, k < B → w.heap[k]? = w0.heap[k]? := fun k hk' => hk.fix k ((fun k hk' => est2_fix (Nat.lt_of_lt_of_le hk' hB) (fun e => e.elim) (fun e => e.elim)) k hk')
    have hsz := hk.world.size
    have y3 := hin3.same (w' := w) (fun k hk' _ => hfx k hk')
    have y4 := hin4.same (w' := w) (fun k hk' _ => hfx k hk')
    have y5 := hin5.same (w' := w) (fun k hk' _ => hfx k hk')
    obtain ⟨r13, z13, x13, -⟩ := f13
    replace z13 : a.eval (.tmp 13) = _ := z13
    exact obE_callV #[.slice (some ⟨r13, 0, none⟩) 3 3] rfl rfl rfl rfl (by simp only [List.map_cons, List.map_nil]; rw [z13]) (wanted_none rfl) ((whole_calls B (some ⟨r13, 0, none⟩) 3 3 _ [tt, tu, tv] w (Nat.le_trans hB hsz) rfl (by decide) (let_row x13 y3 y4 y5)).mono fun e w' h => ⟨by rw [h.1, hwb], h.2⟩)
  · refine ⟨⟨fun τ => stableE_det _, leans_not⟩, ?_⟩
    intro a w O hk
    have e14 : a.eval (.tmp 14) = .bool true := hk.fact 4 _ 14 rfl rfl rfl rfl
    have x3 := hk.world.still hx3 (fun ⟨_, h⟩ => h.elim And.right And.right)
    have x4 := hk.world.still hx4 (fun ⟨_, h⟩ => h.elim And.right And.right)
    have x5 := hk.world.still hx5 (fun ⟨_, h⟩ => h.elim And.right And.right)
    have hfx : ∀ k, k < B → w.heap[k]? = w0.heap[k]? := fun k hk' => hk.fix k ((fun k hk' => est2_fix (Nat.lt_of_lt_of_le hk' hB) (fun e => e.elim) (fun e => e.elim)) k hk')
    have hsz := hk.world.size
    have y3 := hin3.same (w' := w) (fun k hk' _ => hfx k hk')
    have y4 := hin4.same (w' := w) (fun k hk' _ => hfx k hk')
    have y5 := hin5.same (w' := w) (fun k hk' _ => hfx k hk')
    exact obE_run (wanted_none rfl) (by unfold execOp; simp only []; rw [e14]; go_simp) rfl
  · refine ⟨⟨fun τ => stableE_det _, leans_not⟩, ?_⟩
    intro a w O hk
    have e15 : a.eval (.tmp 15) = .bool false := hk.fact 5 _ 15 rfl rfl rfl rfl
    exact toE (ob_move rfl e15 (wanted_none rfl) rfl)
  · refine ⟨⟨fun τ => stableE_det _, leans_not⟩, ?_⟩
    intro a w O hk
    have e3 : a.eval (.tmp 3) = .pointer (some ⟨gt, 0, none⟩) := (hk.init 3 (initialB_of_nw nw3)).trans hi3
    have e16 : a.eval (.tmp 16) = .bool false := hk.fact 6 _ 16 rfl rfl rfl rfl
    have x3 := hk.world.still hx3 (fun ⟨_, h⟩ => h.elim And.right And.right)
    have x4 := hk.world.still hx4 (fun ⟨_, h⟩ => h.elim And.right And.right)
    have x5 := hk.world.still hx5 (fun ⟨_, h⟩ => h.elim And.right And.right)
    have hfx : ∀ k, k < B → w.heap[k]? = w0.heap[k]? := fun k hk' => hk.fix k ((fun k hk' => est2_fix (Nat.lt_of_lt_of_le hk' hB) (fun e => e.elim) (fun e => e.elim)) k hk')
    have hsz := hk.world.size
    have y3 := hin3.same (w' := w) (fun k hk' _ => hfx k hk')
    have y4 := hin4.same (w' := w) (fun k hk' _ => hfx k hk')
    have y5 := hin5.same (w' := w) (fun k hk' _ => hfx k hk')
    exact obE_loadRow rfl e3 x3 Try.underlying28 rfl (by kernel_rfl) (wanted_of rfl rfl rfl e16) rfl
  · refine ⟨⟨fun τ => stableE_det _, leans_not⟩, ?_⟩
    intro a w O hk
    have e17 : a.eval (.tmp 17) = tmV pt tt := hk.fact 7 _ 17 rfl rfl rfl rfl
    have e16 : a.eval (.tmp 16) = .bool false := hk.fact 6 _ 16 rfl rfl rfl rfl
    have x3 := hk.world.still hx3 (fun ⟨_, h⟩ => h.elim And.right And.right)
    have x4 := hk.world.still hx4 (fun ⟨_, h⟩ => h.elim And.right And.right)
    have x5 := hk.world.still hx5 (fun ⟨_, h⟩ => h.elim And.right And.right)
    have hfx : ∀ k, k < B → w.heap[k]? = w0.heap[k]? := fun k hk' => hk.fix k ((fun k hk' => est2_fix (Nat.lt_of_lt_of_le hk' hB) (fun e => e.elim) (fun e => e.elim)) k hk')
    have hsz := hk.world.size
    have y3 := hin3.same (w' := w) (fun k hk' _ => hfx k hk')
    have y4 := hin4.same (w' := w) (fun k hk' _ => hfx k hk')
    have y5 := hin5.same (w' := w) (fun k hk' _ => hfx k hk')
    exact obE_callV #[tmV pt tt] rfl rfl rfl rfl (by simp only [List.map_cons, List.map_nil]; rw [e17]; try rfl) (wanted_of rfl rfl rfl e16) ((refSize_calls tt pt w (TmIn.mono y3 (Nat.le_trans hB hsz))).mono fun e w' h => ⟨by rw [h.1, ha], h.2⟩)
  · refine ⟨⟨fun τ => stableE_det _, leans_not⟩, ?_⟩
    intro a w O hk
    have e4 : a.eval (.tmp 4) = .pointer (some ⟨gu, 0, none⟩) := (hk.init 4 (initialB_of_nw nw4)).trans hi4
    have e16 : a.eval (.tmp 16) = .bool false := hk.fact 6 _ 16 rfl rfl rfl rfl
    have x3 := hk.world.still hx3 (fun ⟨_, h⟩ => h.elim And.right And.right)
    have x4 := hk.world.still hx4 (fun ⟨_, h⟩ => h.elim And.right And.right)
    have x5 := hk.world.still hx5 (fun ⟨_, h⟩ => h.elim And.right And.right)
    have hfx : ∀ k, k < B → w.heap[k]? = w0.heap[k]? := fun k hk' => hk.fix k ((fun k hk' => est2_fix (Nat.lt_of_lt_of_le hk' hB) (fun e => e.elim) (fun e => e.elim)) k hk')
    have hsz := hk.world.size
    have y3 := hin3.same (w' := w) (fun k hk' _ => hfx k hk')
    have y4 := hin4.same (w' := w) (fun k hk' _ => hfx k hk')
    have y5 := hin5.same (w' := w) (fun k hk' _ => hfx k hk')
    exact obE_loadRow rfl e4 x4 Try.underlying28 rfl (by kernel_rfl) (wanted_of rfl rfl rfl e16) rfl
  · refine ⟨⟨fun τ => stableE_det _, leans_not⟩, ?_⟩
    intro a w O hk
    have e19 : a.eval (.tmp 19) = tmV pu tu := hk.fact 9 _ 19 rfl rfl rfl rfl
    have e16 : a.eval (.tmp 16) = .bool false := hk.fact 6 _ 16 rfl rfl rfl rfl
    have x3 := hk.world.still hx3 (fun ⟨_, h⟩ => h.elim And.right And.right)
    have x4 := hk.world.still hx4 (fun ⟨_, h⟩ => h.elim And.right And.right)
    have x5 := hk.world.still hx5 (fun ⟨_, h⟩ => h.elim And.right And.right)
    have hfx : ∀ k, k < B → w.heap[k]? = w0.heap[k]? := fun k hk' => hk.fix k ((fun k hk' => est2_fix (Nat.lt_of_lt_of_le hk' hB) (fun e => e.elim) (fun e => e.elim)) k hk')
    have hsz := hk.world.size
    have y3 := hin3.same (w' := w) (fun k hk' _ => hfx k hk')
    have y4 := hin4.same (w' := w) (fun k hk' _ => hfx k hk')
    have y5 := hin5.same (w' := w) (fun k hk' _ => hfx k hk')
    exact obE_callV #[tmV pu tu] rfl rfl rfl rfl (by simp only [List.map_cons, List.map_nil]; rw [e19]; try rfl) (wanted_of rfl rfl rfl e16) ((refSize_calls tu pu w (TmIn.mono y4 (Nat.le_trans hB hsz))).mono fun e w' h => ⟨by rw [h.1, hb], h.2⟩)
  · refine ⟨⟨fun τ => stableE_det _, leans_not⟩, ?_⟩
    intro a w O hk
    have e18 : a.eval (.tmp 18) = .int .i64 sa := hk.fact 8 _ 18 rfl rfl rfl rfl
    have e20 : a.eval (.tmp 20) = .int .i64 sb := hk.fact 10 _ 20 rfl rfl rfl rfl
    have e16 : a.eval (.tmp 16) = .bool false := hk.fact 6 _ 16 rfl rfl rfl rfl
    have x3 := hk.world.still hx3 (fun ⟨_, h⟩ => h.elim And.right And.right)
    have x4 := hk.world.still hx4 (fun ⟨_, h⟩ => h.elim And.right And.right)
    have x5 := hk.world.still hx5 (fun ⟨_, h⟩ => h.elim And.right And.right)
    have hfx : ∀ k, k < B → w.heap[k]? = w0.heap[k]? := fun k hk' => hk.fix k ((fun k hk' => est2_fix (Nat.lt_of_lt_of_le hk' hB) (fun e => e.elim) (fun e => e.elim)) k hk')
    have hsz := hk.world.size
    have y3 := hin3.same (w' := w) (fun k hk' _ => hfx k hk')
    have y4 := hin4.same (w' := w) (fun k hk' _ => hfx k hk')
    have y5 := hin5.same (w' := w) (fun k hk' _ => hfx k hk')
    have hw9 : IntKind.i64.wrap (sa * sb) = sa * sb := IntWalk.i64_in _ (by omega)
    exact obE_run (wanted_of rfl rfl rfl e16) (by unfold execOp; simp only []; rw [e18, e20]; go_simp) rfl
  · refine ⟨⟨fun τ => stableE_det _, leans_not⟩, ?_⟩
    intro a w O hk
    have e21 : a.eval (.tmp 21) = .int .i64 (sa * sb) := hk.fact 11 _ 21 rfl rfl rfl rfl
    have e16 : a.eval (.tmp 16) = .bool false := hk.fact 6 _ 16 rfl rfl rfl rfl
    have x3 := hk.world.still hx3 (fun ⟨_, h⟩ => h.elim And.right And.right)
    have x4 := hk.world.still hx4 (fun ⟨_, h⟩ => h.elim And.right And.right)
    have x5 := hk.world.still hx5 (fun ⟨_, h⟩ => h.elim And.right And.right)
    have hfx : ∀ k, k < B → w.heap[k]? = w0.heap[k]? := fun k hk' => hk.fix k ((fun k hk' => est2_fix (Nat.lt_of_lt_of_le hk' hB) (fun e => e.elim) (fun e => e.elim)) k hk')
    have hsz := hk.world.size
    have y3 := hin3.same (w' := w) (fun k hk' _ => hfx k hk')
    have y4 := hin4.same (w' := w) (fun k hk' _ => hfx k hk')
    have y5 := hin5.same (w' := w) (fun k hk' _ => hfx k hk')
    exact obE_run (wanted_of rfl rfl rfl e16) (by unfold execOp; simp only []; rw [e21]; go_simp <;> (simp <;> omega)) rfl
  · refine ⟨⟨fun τ => stableE_det _, leans_not⟩, ?_⟩
    intro a w O hk
    have e16 : a.eval (.tmp 16) = .bool false := hk.fact 6 _ 16 rfl rfl rfl rfl
    have e22 : a.eval (.tmp 22) = .bool false := hk.fact 12 _ 22 rfl rfl rfl rfl
    exact toE (ob_pick rfl e16 e22 (wanted_none rfl) rfl)
  · refine ⟨⟨fun τ => stableE_det _, leans_not⟩, ?_⟩
    intro a w O hk
    have e23 : a.eval (.tmp 23) = .bool false := hk.fact 13 _ 23 rfl rfl rfl rfl
    exact toE (ob_move rfl e23 (wanted_none rfl) rfl)
  · refine ⟨⟨fun τ => stableE_det _, leans_not⟩, ?_⟩
    intro a w O hk
    have e3 : a.eval (.tmp 3) = .pointer (some ⟨gt, 0, none⟩) := (hk.init 3 (initialB_of_nw nw3)).trans hi3
    have e24 : a.eval (.tmp 24) = .bool false := hk.fact 14 _ 24 rfl rfl rfl rfl
    have x3 := hk.world.still hx3 (fun ⟨_, h⟩ => h.elim And.right And.right)
    have x4 := hk.world.still hx4 (fun ⟨_, h⟩ => h.elim And.right And.right)
    have x5 := hk.world.still hx5 (fun ⟨_, h⟩ => h.elim And.right And.right)
    have hfx : ∀ k, k < B → w.heap[k]? = w0.heap[k]? := fun k hk' => hk.fix k ((fun k hk' => est2_fix (Nat.lt_of_lt_of_le hk' hB) (fun e => e.elim) (fun e => e.elim)) k hk')
    have hsz := hk.world.size
    have y3 := hin3.same (w' := w) (fun k hk' _ => hfx k hk')
    have y4 := hin4.same (w' := w) (fun k hk' _ => hfx k hk')
    have y5 := hin5.same (w' := w) (fun k hk' _ => hfx k hk')
    exact obE_loadRow rfl e3 x3 Try.underlying28 rfl (by kernel_rfl) (wanted_of rfl rfl rfl e24) rfl
  · refine ⟨⟨fun τ => stableE_det _, leans_not⟩, ?_⟩
    intro a w O hk
    have e25 : a.eval (.tmp 25) = tmV pt tt := hk.fact 15 _ 25 rfl rfl rfl rfl
    have e24 : a.eval (.tmp 24) = .bool false := hk.fact 14 _ 24 rfl rfl rfl rfl
    have x3 := hk.world.still hx3 (fun ⟨_, h⟩ => h.elim And.right And.right)
    have x4 := hk.world.still hx4 (fun ⟨_, h⟩ => h.elim And.right And.right)
    have x5 := hk.world.still hx5 (fun ⟨_, h⟩ => h.elim And.right And.right)
    have hfx : ∀ k, k < B → w.heap[k]? = w0.heap[k]? := fun k hk' => hk.fix k ((fun k hk' => est2_fix (Nat.lt_of_lt_of_le hk' hB) (fun e => e.elim) (fun e => e.elim)) k hk')
    have hsz := hk.world.size
    have y3 := hin3.same (w' := w) (fun k hk' _ => hfx k hk')
    have y4 := hin4.same (w' := w) (fun k hk' _ => hfx k hk')
    have y5 := hin5.same (w' := w) (fun k hk' _ => hfx k hk')
    exact obE_callV #[tmV pt tt] rfl rfl rfl rfl (by simp only [List.map_cons, List.map_nil]; rw [e25]; try rfl) (wanted_of rfl rfl rfl e24) ((refSize_calls tt pt w (TmIn.mono y3 (Nat.le_trans hB hsz))).mono fun e w' h => ⟨by rw [h.1, ha], h.2⟩)
  · refine ⟨⟨fun τ => stableE_det _, leans_not⟩, ?_⟩
    intro a w O hk
    have e4 : a.eval (.tmp 4) = .pointer (some ⟨gu, 0, none⟩) := (hk.init 4 (initialB_of_nw nw4)).trans hi4
    have e24 : a.eval (.tmp 24) = .bool false := hk.fact 14 _ 24 rfl rfl rfl rfl
    have x3 := hk.world.still hx3 (fun ⟨_, h⟩ => h.elim And.right And.right)
    have x4 := hk.world.still hx4 (fun ⟨_, h⟩ => h.elim And.right And.right)
    have x5 := hk.world.still hx5 (fun ⟨_, h⟩ => h.elim And.right And.right)
    have hfx : ∀ k, k < B → w.heap[k]? = w0.heap[k]? := fun k hk' => hk.fix k ((fun k hk' => est2_fix (Nat.lt_of_lt_of_le hk' hB) (fun e => e.elim) (fun e => e.elim)) k hk')
    have hsz := hk.world.size
    have y3 := hin3.same (w' := w) (fun k hk' _ => hfx k hk')
    have y4 := hin4.same (w' := w) (fun k hk' _ => hfx k hk')
    have y5 := hin5.same (w' := w) (fun k hk' _ => hfx k hk')
    exact obE_loadRow rfl e4 x4 Try.underlying28 rfl (by kernel_rfl) (wanted_of rfl rfl rfl e24) rfl
  · refine ⟨⟨fun τ => stableE_det _, leans_not⟩, ?_⟩
    intro a w O hk
    have e27 : a.eval (.tmp 27) = tmV pu tu := hk.fact 17 _ 27 rfl rfl rfl rfl
    have e24 : a.eval (.tmp 24) = .bool false := hk.fact 14 _ 24 rfl rfl rfl rfl
    have x3 := hk.world.still hx3 (fun ⟨_, h⟩ => h.elim And.right And.right)
    have x4 := hk.world.still hx4 (fun ⟨_, h⟩ => h.elim And.right And.right)
    have x5 := hk.world.still hx5 (fun ⟨_, h⟩ => h.elim And.right And.right)
    have hfx : ∀ k, k < B → w.heap[k]? = w0.heap[k]? := fun k hk' => hk.fix k ((fun k hk' => est2_fix (Nat.lt_of_lt_of_le hk' hB) (fun e => e.elim) (fun e => e.elim)) k hk')
    have hsz := hk.world.size
    have y3 := hin3.same (w' := w) (fun k hk' _ => hfx k hk')
    have y4 := hin4.same (w' := w) (fun k hk' _ => hfx k hk')
    have y5 := hin5.same (w' := w) (fun k hk' _ => hfx k hk')
    exact obE_callV #[tmV pu tu] rfl rfl rfl rfl (by simp only [List.map_cons, List.map_nil]; rw [e27]; try rfl) (wanted_of rfl rfl rfl e24) ((refSize_calls tu pu w (TmIn.mono y4 (Nat.le_trans hB hsz))).mono fun e w' h => ⟨by rw [h.1, hb], h.2⟩)
  · refine ⟨⟨fun τ => stableE_det _, leans_not⟩, ?_⟩
    intro a w O hk
    have e26 : a.eval (.tmp 26) = .int .i64 sa := hk.fact 16 _ 26 rfl rfl rfl rfl
    have e28 : a.eval (.tmp 28) = .int .i64 sb := hk.fact 18 _ 28 rfl rfl rfl rfl
    have e24 : a.eval (.tmp 24) = .bool false := hk.fact 14 _ 24 rfl rfl rfl rfl
    have x3 := hk.world.still hx3 (fun ⟨_, h⟩ => h.elim And.right And.right)
    have x4 := hk.world.still hx4 (fun ⟨_, h⟩ => h.elim And.right And.right)
    have x5 := hk.world.still hx5 (fun ⟨_, h⟩ => h.elim And.right And.right)
    have hfx : ∀ k, k < B → w.heap[k]? = w0.heap[k]? := fun k hk' => hk.fix k ((fun k hk' => est2_fix (Nat.lt_of_lt_of_le hk' hB) (fun e => e.elim) (fun e => e.elim)) k hk')
    have hsz := hk.world.size
    have y3 := hin3.same (w' := w) (fun k hk' _ => hfx k hk')
    have y4 := hin4.same (w' := w) (fun k hk' _ => hfx k hk')
    have y5 := hin5.same (w' := w) (fun k hk' _ => hfx k hk')
    have hw9 : IntKind.i64.wrap (sa * sb) = sa * sb := IntWalk.i64_in _ (by omega)
    exact obE_run (wanted_of rfl rfl rfl e24) (by unfold execOp; simp only []; rw [e26, e28]; go_simp) rfl
  · refine ⟨⟨fun τ => stableE_det _, leans_not⟩, ?_⟩
    intro a w O hk
    have e5 : a.eval (.tmp 5) = .pointer (some ⟨gv, 0, none⟩) := (hk.init 5 (initialB_of_nw nw5)).trans hi5
    have e24 : a.eval (.tmp 24) = .bool false := hk.fact 14 _ 24 rfl rfl rfl rfl
    have x3 := hk.world.still hx3 (fun ⟨_, h⟩ => h.elim And.right And.right)
    have x4 := hk.world.still hx4 (fun ⟨_, h⟩ => h.elim And.right And.right)
    have x5 := hk.world.still hx5 (fun ⟨_, h⟩ => h.elim And.right And.right)
    have hfx : ∀ k, k < B → w.heap[k]? = w0.heap[k]? := fun k hk' => hk.fix k ((fun k hk' => est2_fix (Nat.lt_of_lt_of_le hk' hB) (fun e => e.elim) (fun e => e.elim)) k hk')
    have hsz := hk.world.size
    have y3 := hin3.same (w' := w) (fun k hk' _ => hfx k hk')
    have y4 := hin4.same (w' := w) (fun k hk' _ => hfx k hk')
    have y5 := hin5.same (w' := w) (fun k hk' _ => hfx k hk')
    exact obE_loadRow rfl e5 x5 Try.underlying28 rfl (by kernel_rfl) (wanted_of rfl rfl rfl e24) rfl
  · refine ⟨⟨fun τ => stableE_det _, leans_not⟩, ?_⟩
    intro a w O hk
    have e30 : a.eval (.tmp 30) = tmV pv tv := hk.fact 20 _ 30 rfl rfl rfl rfl
    have e24 : a.eval (.tmp 24) = .bool false := hk.fact 14 _ 24 rfl rfl rfl rfl
    have x3 := hk.world.still hx3 (fun ⟨_, h⟩ => h.elim And.right And.right)
    have x4 := hk.world.still hx4 (fun ⟨_, h⟩ => h.elim And.right And.right)
    have x5 := hk.world.still hx5 (fun ⟨_, h⟩ => h.elim And.right And.right)
    have hfx : ∀ k, k < B → w.heap[k]? = w0.heap[k]? := fun k hk' => hk.fix k ((fun k hk' => est2_fix (Nat.lt_of_lt_of_le hk' hB) (fun e => e.elim) (fun e => e.elim)) k hk')
    have hsz := hk.world.size
    have y3 := hin3.same (w' := w) (fun k hk' _ => hfx k hk')
    have y4 := hin4.same (w' := w) (fun k hk' _ => hfx k hk')
    have y5 := hin5.same (w' := w) (fun k hk' _ => hfx k hk')
    exact obE_callV #[tmV pv tv] rfl rfl rfl rfl (by simp only [List.map_cons, List.map_nil]; rw [e30]; try rfl) (wanted_of rfl rfl rfl e24) ((refSize_calls tv pv w (TmIn.mono y5 (Nat.le_trans hB hsz))).mono fun e w' h => ⟨by rw [h.1, hc], h.2⟩)
  · refine ⟨⟨fun τ => stableE_det _, leans_not⟩, ?_⟩
    intro a w O hk
    have e29 : a.eval (.tmp 29) = .int .i64 (sa * sb) := hk.fact 19 _ 29 rfl rfl rfl rfl
    have e31 : a.eval (.tmp 31) = .int .i64 sc := hk.fact 21 _ 31 rfl rfl rfl rfl
    have e24 : a.eval (.tmp 24) = .bool false := hk.fact 14 _ 24 rfl rfl rfl rfl
    have x3 := hk.world.still hx3 (fun ⟨_, h⟩ => h.elim And.right And.right)
    have x4 := hk.world.still hx4 (fun ⟨_, h⟩ => h.elim And.right And.right)
    have x5 := hk.world.still hx5 (fun ⟨_, h⟩ => h.elim And.right And.right)
    have hfx : ∀ k, k < B → w.heap[k]? = w0.heap[k]? := fun k hk' => hk.fix k ((fun k hk' => est2_fix (Nat.lt_of_lt_of_le hk' hB) (fun e => e.elim) (fun e => e.elim)) k hk')
    have hsz := hk.world.size
    have y3 := hin3.same (w' := w) (fun k hk' _ => hfx k hk')
    have y4 := hin4.same (w' := w) (fun k hk' _ => hfx k hk')
    have y5 := hin5.same (w' := w) (fun k hk' _ => hfx k hk')
    have hw9 : IntKind.i64.wrap (sa * sb * sc) = sa * sb * sc := IntWalk.i64_in _ (by omega)
    exact obE_run (wanted_of rfl rfl rfl e24) (by unfold execOp; simp only []; rw [e29, e31]; go_simp) rfl
  · refine ⟨⟨fun τ => stableE_det _, leans_not⟩, ?_⟩
    intro a w O hk
    have e32 : a.eval (.tmp 32) = .int .i64 (sa * sb * sc) := hk.fact 22 _ 32 rfl rfl rfl rfl
    have e24 : a.eval (.tmp 24) = .bool false := hk.fact 14 _ 24 rfl rfl rfl rfl
    have x3 := hk.world.still hx3 (fun ⟨_, h⟩ => h.elim And.right And.right)
    have x4 := hk.world.still hx4 (fun ⟨_, h⟩ => h.elim And.right And.right)
    have x5 := hk.world.still hx5 (fun ⟨_, h⟩ => h.elim And.right And.right)
    have hfx : ∀ k, k < B → w.heap[k]? = w0.heap[k]? := fun k hk' => hk.fix k ((fun k hk' => est2_fix (Nat.lt_of_lt_of_le hk' hB) (fun e => e.elim) (fun e => e.elim)) k hk')
    have hsz := hk.world.size
    have y3 := hin3.same (w' := w) (fun k hk' _ => hfx k hk')
    have y4 := hin4.same (w' := w) (fun k hk' _ => hfx k hk')
    have y5 := hin5.same (w' := w) (fun k hk' _ => hfx k hk')
    exact obE_run (wanted_of rfl rfl rfl e24) (by unfold execOp; simp only []; rw [e32]; go_simp <;> (simp <;> omega)) rfl
  · refine ⟨⟨fun τ => stableE_det _, leans_not⟩, ?_⟩
    intro a w O hk
    have e24 : a.eval (.tmp 24) = .bool false := hk.fact 14 _ 24 rfl rfl rfl rfl
    have e33 : a.eval (.tmp 33) = .bool false := hk.fact 23 _ 33 rfl rfl rfl rfl
    exact toE (ob_pick rfl e24 e33 (wanted_none rfl) rfl)
set_option maxRecDepth 100000 in
set_option maxHeartbeats 8000000 in
theorem tp1d_region {Q : Exit → Act → World → Prop} {id : Nat} (w0 : World) (B : Nat) (gt : Nat) (pt : Pl) (tt : Tm) (gu : Nat) (pu : Pl) (tu : Tm) (gv : Nat) (pv : Pl) (tv : Tm) (sa sb sc : Int) {s0 s1 s2 s6 s7 s8 s9 s10 s11 s12 s13 s14 s15 s16 s17 s18 s19 s20 s21 s22 s23 s24 s25 s26 s27 s28 s29 s30 s31 s32 s33 s34 s35 s36 s37 s38 s39 s40 s41 s42 s43 s44 s45 s46 s47 s48 s49 s50 s51 s52 s53 s54 s55 s56 s57 s58 s59 s60 s61 s62 s63 s64 s65 s66 s67 s68 : Value} (hB : B ≤ w0.heap.size) (hx3 : w0.heap[gt]? = some (tmO pt tt)) (hin3 : TmIn w0 B pt tt) (hx4 : w0.heap[gu]? = some (tmO pu tu)) (hin4 : TmIn w0 B pu tu) (hx5 : w0.heap[gv]? = some (tmO pv tv)) (hin5 : TmIn w0 B pv tv) (hwb : wholeB [tt, tu, tv] = true) (ha : (measP tt).1 = sa) (hb : (measP tu).1 = sb) (hc : (measP tv).1 = sc) (hm1 : 0 ≤ sa * sb ∧ sa * sb ≤ 1000000) (hm2 : 0 ≤ sa * sb * sc ∧ sa * sb * sc ≤ 1000000000) (hg1 : ¬ 15000 < sa * sb) (hg2 : ¬ 15000 < sa * sb * sc)
    (hend : ∀ (w' : World) (u13 : Value) (O3 : Nat → Prop), Chg (fun k => False ∨ False) w0 w' → (∃ p, u13 = .slice (some ⟨p, 0, none⟩) 3 3 ∧ w'.heap[p]? = some (.cells (tmC pt tt ++ tmC pu tu ++ tmC pv tv).toArray 28 (0, 0)) ∧ O3 p) → (∀ k, O3 k → k < w'.heap.size ∧ ¬ Fix w0 (est2 0 0 (fun _ => False) (fun _ => False)) k) → Q .normal { tmps := (s0 :: s1 :: s2 :: (.pointer (some ⟨gt, 0, none⟩)) :: (.pointer (some ⟨gu, 0, none⟩)) :: (.pointer (some ⟨gv, 0, none⟩)) :: s6 :: s7 :: s8 :: s9 :: (tmV pt tt) :: (tmV pu tu) :: (tmV pv tv) :: u13 :: (.bool true) :: (.bool false) :: (.bool false) :: (tmV pt tt) :: (.int .i64 sa) :: (tmV pu tu) :: (.int .i64 sb) :: (.int .i64 (sa * sb)) :: (.bool false) :: (.bool false) :: (.bool false) :: (tmV pt tt) :: (.int .i64 sa) :: (tmV pu tu) :: (.int .i64 sb) :: (.int .i64 (sa * sb)) :: (tmV pv tv) :: (.int .i64 sc) :: (.int .i64 (sa * sb * sc)) :: (.bool false) :: (.bool false) :: s35 :: s36 :: s37 :: s38 :: s39 :: s40 :: s41 :: s42 :: s43 :: s44 :: s45 :: s46 :: s47 :: s48 :: s49 :: s50 :: s51 :: s52 :: s53 :: s54 :: s55 :: s56 :: s57 :: s58 :: s59 :: s60 :: s61 :: s62 :: s63 :: s64 :: s65 :: s66 :: s67 :: s68 :: [] : List Value).toArray, defers := [] } w') :
    (Code.region id tp1n_ops.toArray true).wp Try.prog Q { tmps := (s0 :: s1 :: s2 :: (.pointer (some ⟨gt, 0, none⟩)) :: (.pointer (some ⟨gu, 0, none⟩)) :: (.pointer (some ⟨gv, 0, none⟩)) :: s6 :: s7 :: s8 :: s9 :: s10 :: s11 :: s12 :: s13 :: s14 :: s15 :: s16 :: s17 :: s18 :: s19 :: s20 :: s21 :: s22 :: s23 :: s24 :: s25 :: s26 :: s27 :: s28 :: s29 :: s30 :: s31 :: s32 :: s33 :: s34 :: s35 :: s36 :: s37 :: s38 :: s39 :: s40 :: s41 :: s42 :: s43 :: s44 :: s45 :: s46 :: s47 :: s48 :: s49 :: s50 :: s51 :: s52 :: s53 :: s54 :: s55 :: s56 :: s57 :: s58 :: s59 :: s60 :: s61 :: s62 :: s63 :: s64 :: s65 :: s66 :: s67 :: s68 :: [] : List Value).toArray, defers := [] } w0 := by
  refine wp_region_est (by kernel_rfl) (est2 0 0 (fun _ => False) (fun _ => False)) tp1d_C (tp1d_F w0 B gt pt tt gu pu tu gv pv tv sa sb sc) (est2_dis (fun _ h _ => h)) (est2_range (fun _ h => h.elim) (fun _ h => h.elim)) (by rfl) (by kernel_rfl) (tp1d_obs w0.drew B gt pt tt gu pu tu gv pv tv sa sb sc hB hx3 (TmS.same hin3 (fun _ _ _ => rfl)) hx4 (TmS.same hin4 (fun _ _ _ => rfl)) hx5 (TmS.same hin5 (fun _ _ _ => rfl)) hwb ha hb hc hm1 hm2 hg1 hg2 _ _ rfl rfl rfl) ?_
  intro a w' O hd hs hb hf hf2 ha hsame
  have hl := slots_eq (ops := tp1n_ops.toArray) [(10, tmV pt tt), (11, tmV pu tu), (12, tmV pv tv), (13, a.tmps.getD 13 undef), (14, .bool true), (15, .bool false), (16, .bool false), (17, tmV pt tt), (18, .int .i64 sa), (19, tmV pu tu), (20, .int .i64 sb), (21, .int .i64 (sa * sb)), (22, .bool false), (23, .bool false), (24, .bool false), (25, tmV pt tt), (26, .int .i64 sa), (27, tmV pu tu), (28, .int .i64 sb), (29, .int .i64 (sa * sb)), (30, tmV pv tv), (31, .int .i64 sc), (32, .int .i64 (sa * sb * sc)), (33, .bool false), (34, .bool false)] (show a.tmps.size = 69 from hs) (fun i h => hsame i h) ⟨(hf 0 _ 10 rfl rfl (by decide)).1, (hf 1 _ 11 rfl rfl (by decide)).1, (hf 2 _ 12 rfl rfl (by decide)).1, rfl, (hf 4 _ 14 rfl rfl (by decide)).1, (hf 5 _ 15 rfl rfl (by decide)).1, (hf 6 _ 16 rfl rfl (by decide)).1, (hf 7 _ 17 rfl rfl (by decide)).1, (hf 8 _ 18 rfl rfl (by decide)).1, (hf 9 _ 19 rfl rfl (by decide)).1, (hf 10 _ 20 rfl rfl (by decide)).1, (hf 11 _ 21 rfl rfl (by decide)).1, (hf 12 _ 22 rfl rfl (by decide)).1, (hf 13 _ 23 rfl rfl (by decide)).1, (hf 14 _ 24 rfl rfl (by decide)).1, (hf 15 _ 25 rfl rfl (by decide)).1, (hf 16 _ 26 rfl rfl (by decide)).1, (hf 17 _ 27 rfl rfl (by decide)).1, (hf 18 _ 28 rfl rfl (by decide)).1, (hf 19 _ 29 rfl rfl (by decide)).1, (hf 20 _ 30 rfl rfl (by decide)).1, (hf 21 _ 31 rfl rfl (by decide)).1, (hf 22 _ 32 rfl rfl (by decide)).1, (hf 23 _ 33 rfl rfl (by decide)).1, (hf 24 _ 34 rfl rfl (by decide)).1, trivial⟩ (by kernel_rfl)
  obtain ⟨tmps, defers⟩ := a
  obtain rfl : defers = [] := hd
  have hl' : tmps = _ := hl
  rw [hl']
  have hb' := est2_chg hb
  refine Eq.mp ?_ (hend w' (tmps.getD 13 undef) (O 3) ⟨hb'.os, hb'.tape, hb'.output, hb'.size, hb'.block⟩ (hf 3 _ 13 rfl rfl (by decide)).1 (hf 3 _ 13 rfl rfl (by decide)).2)
  kernel_rfl

def tp3_ops : List Oper := [
  { dst := some 36, op := Go.Op.load 28 (Go.Operand.tmp 3), type := 28, pos := "law.go:164", after := #[], guard := none },
  { dst := some 37, op := Go.Op.load 28 (Go.Operand.tmp 4), type := 28, pos := "law.go:164", after := #[], guard := none },
  { dst := some 38, op := Go.Op.call { callee := Go.Callee.value (Go.Operand.func 17), args := #[Go.Operand.tmp 36, Go.Operand.tmp 37], argTypes := #[28, 28] }, type := 28, pos := "law.go:164", after := #[{ on := 0, ground := Go.Ground.data }, { on := 1, ground := Go.Ground.data }], guard := none },
  { dst := some 39, op := Go.Op.load 28 (Go.Operand.tmp 5), type := 28, pos := "law.go:164", after := #[], guard := none },
  { dst := some 40, op := Go.Op.call { callee := Go.Callee.value (Go.Operand.func 17), args := #[Go.Operand.tmp 38, Go.Operand.tmp 39], argTypes := #[28, 28] }, type := 28, pos := "law.go:164", after := #[{ on := 2, ground := Go.Ground.data }, { on := 3, ground := Go.Ground.data }, { on := 2, ground := Go.Ground.chain }], guard := none },
  { dst := some 7, op := Go.Op.alloc 28, type := 0, pos := "law.go:164", after := #[], guard := none },
  { dst := none, op := Go.Op.store 28 (Go.Operand.tmp 7) (Go.Operand.tmp 40), type := 0, pos := "law.go:164", after := #[{ on := 5, ground := Go.Ground.data }, { on := 4, ground := Go.Ground.data }, { on := 4, ground := Go.Ground.chain }, { on := 0, ground := Go.Ground.phase }, { on := 1, ground := Go.Ground.phase }, { on := 2, ground := Go.Ground.phase }, { on := 3, ground := Go.Ground.phase }, { on := 4, ground := Go.Ground.phase }, { on := 5, ground := Go.Ground.phase }], guard := none }]
def tp3_F (w0 : World) (B : Nat) (gt : Nat) (pt : Pl) (tt : Tm) (gu : Nat) (pu : Pl) (tu : Tm) (gv : Nat) (pv : Pl) (tv : Tm) : Nat → (Nat → Value) → Value → World → (Nat → Prop) → Prop := fun rix => match rix with
  | 0 => fun _ v _ _ => v = tmV pt tt
  | 1 => fun _ v _ _ => v = tmV pu tu
  | 2 => fun τ v w O => TmO (fun k => k < B) (InstT tt tu) v w O
  | 3 => fun _ v _ _ => v = tmV pv tv
  | 4 => fun τ v w O => TmO (fun k => k < B) (InstT (InstT tt tu) tv) v w O
  | 5 => fun τ v w O => ∃ p, v = .pointer (some ⟨p, 0, none⟩) ∧ w.heap[p]? = some (tmO plz zeroT) ∧ O p
  | 6 => fun τ v w O => ∃ p, τ 7 = .pointer (some ⟨p, 0, none⟩) ∧ TmBox p (fun k => k < B) (InstT (InstT tt tu) tv) w O
  | _ => fun _ _ _ _ => True
def tp3_C : Nat → List Nat := fun rix => match rix with
  | 4 => [2]
  | 6 => [5, 4]
  | _ => []
theorem tp3_nw3 : nwB tp3_ops.toArray 3 = true := by kernel_rfl
theorem tp3_nw4 : nwB tp3_ops.toArray 4 = true := by kernel_rfl
theorem tp3_nw5 : nwB tp3_ops.toArray 5 = true := by kernel_rfl
set_option maxRecDepth 100000 in
set_option maxHeartbeats 8000000 in
theorem tp3_obs (w0 : World) (B : Nat) (gt : Nat) (pt : Pl) (tt : Tm) (gu : Nat) (pu : Pl) (tu : Tm) (gv : Nat) (pv : Pl) (tv : Tm) (hB : B ≤ w0.heap.size) (hx3 : w0.heap[gt]? = some (tmO pt tt)) (hin3 : TmIn w0 B pt tt) (hx4 : w0.heap[gu]? = some (tmO pu tu)) (hin4 : TmIn w0 B pu tu) (hx5 : w0.heap[gv]? = some (tmO pv tv)) (hin5 : TmIn w0 B pv tv) (Q : Exit → Act → World → Prop) (a0 : Act) (hi3 : a0.tmps.getD 3 undef = .pointer (some ⟨gt, 0, none⟩)) (hi4 : a0.tmps.getD 4 undef = .pointer (some ⟨gu, 0, none⟩)) (hi5 : a0.tmps.getD 5 undef = .pointer (some ⟨gv, 0, none⟩)) :
    ObsE Try.prog tp3_ops.toArray Q (est2 0 0 (fun _ => False) (fun _ => False)) tp3_C (tp3_F w0 B gt pt tt gu pu tu gv pv tv) a0 w0 tp3_ops.toArray.toList 0 := by
  have nw3 := tp3_nw3
  have nw4 := tp3_nw4
  have nw5 := tp3_nw5
  refine ⟨?_, ?_, ?_, ?_, ?_, ?_, ?_, trivial⟩
  · refine ⟨⟨fun τ => stableE_det _, leans_not⟩, ?_⟩
    intro a w O hk
    have e3 : a.eval (.tmp 3) = .pointer (some ⟨gt, 0, none⟩) := (hk.init 3 (initialB_of_nw nw3)).trans hi3
    have x3 := hk.world.still hx3 (fun ⟨_, h⟩ => h.elim And.right And.right)
    have x4 := hk.world.still hx4 (fun ⟨_, h⟩ => h.elim And.right And.right)
    have x5 := hk.world.still hx5 (fun ⟨_, h⟩ => h.elim And.right And.right)
    have hfx : ∀ k, k < B → w.heap[k]? = w0.heap[k]? := fun k hk' => hk.fix k ((fun k hk' => est2_fix (Nat.lt_of_lt_of_le hk' hB) (fun e => e.elim) (fun e => e.elim)) k hk')
    have hsz := hk.world.size
    have y3 := hin3.same (w' := w) (fun k hk' _ => hfx k hk')
    have y4 := hin4.same (w' := w) (fun k hk' _ => hfx k hk')
    have y5 := hin5.same (w' := w) (fun k hk' _ => hfx k hk')
    exact obE_loadRow rfl e3 x3 Try.underlying28 rfl (by kernel_rfl) (wanted_none rfl) rfl
  · refine ⟨⟨fun τ => stableE_det _, leans_not⟩, ?_⟩
    intro a w O hk
    have e4 : a.eval (.tmp 4) = .pointer (some ⟨gu, 0, none⟩) := (hk.init 4 (initialB_of_nw nw4)).trans hi4
    have x3 := hk.world.still hx3 (fun ⟨_, h⟩ => h.elim And.right And.right)
    have x4 := hk.world.still hx4 (fun ⟨_, h⟩ => h.elim And.right And.right)
    have x5 := hk.world.still hx5 (fun ⟨_, h⟩ => h.elim And.right And.right)
    have hfx : ∀ k, k < B → w.heap[k]? = w0.heap[k]? := fun k hk' => hk.fix k ((fun k hk' => est2_fix (Nat.lt_of_lt_of_le hk' hB) (fun e => e.elim) (fun e => e.elim)) k hk')
    have hsz := hk.world.size
    have y3 := hin3.same (w' := w) (fun k hk' _ => hfx k hk')
    have y4 := hin4.same (w' := w) (fun k hk' _ => hfx k hk')
    have y5 := hin5.same (w' := w) (fun k hk' _ => hfx k hk')
    exact obE_loadRow rfl e4 x4 Try.underlying28 rfl (by kernel_rfl) (wanted_none rfl) rfl
  · refine ⟨⟨fun τ => stableE_tm (fun k hk' => est2_fix (Nat.lt_of_lt_of_le hk' hB) (fun e => e.elim) (fun e => e.elim)), leans_not⟩, ?_⟩
    intro a w O hk
    have e36 : a.eval (.tmp 36) = tmV pt tt := hk.fact 0 _ 36 rfl rfl rfl rfl
    have e37 : a.eval (.tmp 37) = tmV pu tu := hk.fact 1 _ 37 rfl rfl rfl rfl
    have x3 := hk.world.still hx3 (fun ⟨_, h⟩ => h.elim And.right And.right)
    have x4 := hk.world.still hx4 (fun ⟨_, h⟩ => h.elim And.right And.right)
    have x5 := hk.world.still hx5 (fun ⟨_, h⟩ => h.elim And.right And.right)
    have hfx : ∀ k, k < B → w.heap[k]? = w0.heap[k]? := fun k hk' => hk.fix k ((fun k hk' => est2_fix (Nat.lt_of_lt_of_le hk' hB) (fun e => e.elim) (fun e => e.elim)) k hk')
    have hsz := hk.world.size
    have y3 := hin3.same (w' := w) (fun k hk' _ => hfx k hk')
    have y4 := hin4.same (w' := w) (fun k hk' _ => hfx k hk')
    have y5 := hin5.same (w' := w) (fun k hk' _ => hfx k hk')
    exact obE_tmCall #[tmV pt tt, tmV pu tu] rfl rfl rfl rfl (by simp only [List.map_cons, List.map_nil]; rw [e36, e37]; try rfl) (wanted_none rfl) ((InstS_calls (fun k => k < B) w.heap.size (fun k h => Nat.lt_of_lt_of_le h (Nat.le_trans hB hsz)) tt tu pt pu w (Nat.le_refl _) (TmS.mono y3 fun k h _ => h) (TmS.mono y4 fun k h _ => h)).mono fun e w' ⟨q9, h1, h2, h3⟩ => ⟨q9, h1, h2.mono fun k h _ => h.elim (fun h => .inl (.inl h)) .inr, h3⟩)
  · refine ⟨⟨fun τ => stableE_det _, leans_not⟩, ?_⟩
    intro a w O hk
    have e5 : a.eval (.tmp 5) = .pointer (some ⟨gv, 0, none⟩) := (hk.init 5 (initialB_of_nw nw5)).trans hi5
    have x3 := hk.world.still hx3 (fun ⟨_, h⟩ => h.elim And.right And.right)
    have x4 := hk.world.still hx4 (fun ⟨_, h⟩ => h.elim And.right And.right)
    have x5 := hk.world.still hx5 (fun ⟨_, h⟩ => h.elim And.right And.right)
    have hfx : ∀ k, k < B → w.heap[k]? = w0.heap[k]? := fun k hk' => hk.fix k ((fun k hk' => est2_fix (Nat.lt_of_lt_of_le hk' hB) (fun e => e.elim) (fun e => e.elim)) k hk')
    have hsz := hk.world.size
    have y3 := hin3.same (w' := w) (fun k hk' _ => hfx k hk')
    have y4 := hin4.same (w' := w) (fun k hk' _ => hfx k hk')
    have y5 := hin5.same (w' := w) (fun k hk' _ => hfx k hk')
    exact obE_loadRow rfl e5 x5 Try.underlying28 rfl (by kernel_rfl) (wanted_none rfl) rfl
  · refine ⟨⟨fun τ => stableE_tm (fun k hk' => est2_fix (Nat.lt_of_lt_of_le hk' hB) (fun e => e.elim) (fun e => e.elim)), leans_not⟩, ?_⟩
    intro a w O hk
    have f38 := hk.fact 2 _ 38 rfl rfl rfl rfl
    have g38 := hk.owns 2 rfl rfl
    have e39 : a.eval (.tmp 39) = tmV pv tv := hk.fact 3 _ 39 rfl rfl rfl rfl
    have x3 := hk.world.still hx3 (fun ⟨_, h⟩ => h.elim And.right And.right)
    have x4 := hk.world.still hx4 (fun ⟨_, h⟩ => h.elim And.right And.right)
    have x5 := hk.world.still hx5 (fun ⟨_, h⟩ => h.elim And.right And.right)
    have hfx : ∀ k, k < B → w.heap[k]? = w0.heap[k]? := fun k hk' => hk.fix k ((fun k hk' => est2_fix (Nat.lt_of_lt_of_le hk' hB) (fun e => e.elim) (fun e => e.elim)) k hk')
    have hsz := hk.world.size
    have y3 := hin3.same (w' := w) (fun k hk' _ => hfx k hk')
    have y4 := hin4.same (w' := w) (fun k hk' _ => hfx k hk')
    have y5 := hin5.same (w' := w) (fun k hk' _ => hfx k hk')
    obtain ⟨q38, z38, h38⟩ := f38
    replace z38 : a.eval (.tmp 38) = _ := z38
    exact obE_tmCall #[tmV q38 (InstT tt tu), tmV pv tv] rfl rfl rfl rfl (by simp only [List.map_cons, List.map_nil]; rw [z38, e39]; try rfl) (wanted_none rfl) ((InstS_calls (fun k => k < B ∨ O 2 k) w.heap.size (fun k h => h.elim (fun h => Nat.lt_of_lt_of_le h (Nat.le_trans hB hsz)) fun h => (g38 k h).1) (InstT tt tu) tv q38 pv w (Nat.le_refl _) (TmS.mono h38 fun k h _ => h.imp id id) (TmS.mono y5 fun k h _ => .inl h)).mono fun e w' ⟨q9, h1, h2, h3⟩ => ⟨q9, h1, h2.mono fun k h _ => h.elim (fun h => .inl (h.elim .inl fun h => .inr (.inl ⟨2, by simp [tp3_C], h⟩))) .inr, h3⟩)
  · refine ⟨⟨fun τ => stableE_ex fun p => stableE_and stableE_pure (stableE_block _ _), leans_not⟩, ?_⟩
    intro a w O hk
    have x3 := hk.world.still hx3 (fun ⟨_, h⟩ => h.elim And.right And.right)
    have x4 := hk.world.still hx4 (fun ⟨_, h⟩ => h.elim And.right And.right)
    have x5 := hk.world.still hx5 (fun ⟨_, h⟩ => h.elim And.right And.right)
    have hfx : ∀ k, k < B → w.heap[k]? = w0.heap[k]? := fun k hk' => hk.fix k ((fun k hk' => est2_fix (Nat.lt_of_lt_of_le hk' hB) (fun e => e.elim) (fun e => e.elim)) k hk')
    have hsz := hk.world.size
    have y3 := hin3.same (w' := w) (fun k hk' _ => hfx k hk')
    have y4 := hin4.same (w' := w) (fun k hk' _ => hfx k hk')
    have y5 := hin5.same (w' := w) (fun k hk' _ => hfx k hk')
    exact obE_res (w' := w.alloc (tmO plz zeroT)) (fun k => k = w.heap.size) (wanted_none rfl) (by unfold execOp; simp only []; go_simp; rfl) (Chg.of_below ((Below.refl _ _).alloc (Nat.le_refl _) _)) ⟨_, rfl, blk_new _ _, rfl⟩ (fun k hk => .inr ⟨by omega, by simp; omega⟩)
  · refine ⟨⟨fun τ => stableE_ex fun p v w w' O h hz hk => ⟨h.1, stableE_tmbox (fun k hk' => est2_fix (Nat.lt_of_lt_of_le hk' hB) (fun e => e.elim) (fun e => e.elim)) v w w' O h.2 hz hk⟩, fun τ τ' h => by have e : τ' 7 = τ 7 := h 5 _ 7 rfl rfl rfl; show (fun v w O => ∃ p, τ 7 = _ ∧ TmBox p _ _ w O) = (fun v w O => ∃ p, τ' 7 = _ ∧ TmBox p _ _ w O); rw [e]⟩, ?_⟩
    intro a w O hk
    have f7 := hk.fact 5 _ 7 rfl rfl rfl rfl
    have g7 := hk.owns 5 rfl rfl
    have f40 := hk.fact 4 _ 40 rfl rfl rfl rfl
    have g40 := hk.owns 4 rfl rfl
    have x3 := hk.world.still hx3 (fun ⟨_, h⟩ => h.elim And.right And.right)
    have x4 := hk.world.still hx4 (fun ⟨_, h⟩ => h.elim And.right And.right)
    have x5 := hk.world.still hx5 (fun ⟨_, h⟩ => h.elim And.right And.right)
    have hfx : ∀ k, k < B → w.heap[k]? = w0.heap[k]? := fun k hk' => hk.fix k ((fun k hk' => est2_fix (Nat.lt_of_lt_of_le hk' hB) (fun e => e.elim) (fun e => e.elim)) k hk')
    have hsz := hk.world.size
    have y3 := hin3.same (w' := w) (fun k hk' _ => hfx k hk')
    have y4 := hin4.same (w' := w) (fun k hk' _ => hfx k hk')
    have y5 := hin5.same (w' := w) (fun k hk' _ => hfx k hk')
    obtain ⟨p9, zp, xp, hOp⟩ := f7
    exact obE_tmPut (T := fun k => k < B) rfl (wanted_none rfl) zp xp f40 (.inl ⟨5, by simp [tp3_C], hOp⟩) (fun k h => .inl ⟨4, by simp [tp3_C], h⟩) (fun h => (g7 p9 hOp).2 ((fun k hk' => est2_fix (Nat.lt_of_lt_of_le hk' hB) (fun e => e.elim) (fun e => e.elim)) p9 h)) (hk.apart 5 4 rfl rfl rfl rfl (by decide) p9 hOp) zp
set_option maxRecDepth 100000 in
set_option maxHeartbeats 8000000 in
theorem tp3_region {Q : Exit → Act → World → Prop} {id : Nat} (w0 : World) (B : Nat) (gt : Nat) (pt : Pl) (tt : Tm) (gu : Nat) (pu : Pl) (tu : Tm) (gv : Nat) (pv : Pl) (tv : Tm) {s0 s1 s2 s6 s7 s8 s9 s10 s11 s12 s13 s14 s15 s16 s17 s18 s19 s20 s21 s22 s23 s24 s25 s26 s27 s28 s29 s30 s31 s32 s33 s34 s35 s36 s37 s38 s39 s40 s41 s42 s43 s44 s45 s46 s47 s48 s49 s50 s51 s52 s53 s54 s55 s56 s57 s58 s59 s60 s61 s62 s63 s64 s65 s66 s67 s68 : Value} (hB : B ≤ w0.heap.size) (hx3 : w0.heap[gt]? = some (tmO pt tt)) (hin3 : TmIn w0 B pt tt) (hx4 : w0.heap[gu]? = some (tmO pu tu)) (hin4 : TmIn w0 B pu tu) (hx5 : w0.heap[gv]? = some (tmO pv tv)) (hin5 : TmIn w0 B pv tv)
    (hend : ∀ (w' : World) (u7 : Value) (u38 : Value) (u40 : Value) (v6 : Value) (O6 : Nat → Prop), Chg (fun k => False ∨ False) w0 w' → (∃ p, u7 = .pointer (some ⟨p, 0, none⟩) ∧ TmBox p (fun k => k < B) (InstT (InstT tt tu) tv) w' O6) → (∀ k, O6 k → k < w'.heap.size ∧ ¬ Fix w0 (est2 0 0 (fun _ => False) (fun _ => False)) k) → Q .normal { tmps := (s0 :: s1 :: s2 :: (.pointer (some ⟨gt, 0, none⟩)) :: (.pointer (some ⟨gu, 0, none⟩)) :: (.pointer (some ⟨gv, 0, none⟩)) :: s6 :: u7 :: s8 :: s9 :: s10 :: s11 :: s12 :: s13 :: s14 :: s15 :: s16 :: s17 :: s18 :: s19 :: s20 :: s21 :: s22 :: s23 :: s24 :: s25 :: s26 :: s27 :: s28 :: s29 :: s30 :: s31 :: s32 :: s33 :: s34 :: s35 :: (tmV pt tt) :: (tmV pu tu) :: u38 :: (tmV pv tv) :: u40 :: s41 :: s42 :: s43 :: s44 :: s45 :: s46 :: s47 :: s48 :: s49 :: s50 :: s51 :: s52 :: s53 :: s54 :: s55 :: s56 :: s57 :: s58 :: s59 :: s60 :: s61 :: s62 :: s63 :: s64 :: s65 :: s66 :: s67 :: s68 :: [] : List Value).toArray, defers := [] } w') :
    (Code.region id tp3_ops.toArray true).wp Try.prog Q { tmps := (s0 :: s1 :: s2 :: (.pointer (some ⟨gt, 0, none⟩)) :: (.pointer (some ⟨gu, 0, none⟩)) :: (.pointer (some ⟨gv, 0, none⟩)) :: s6 :: s7 :: s8 :: s9 :: s10 :: s11 :: s12 :: s13 :: s14 :: s15 :: s16 :: s17 :: s18 :: s19 :: s20 :: s21 :: s22 :: s23 :: s24 :: s25 :: s26 :: s27 :: s28 :: s29 :: s30 :: s31 :: s32 :: s33 :: s34 :: s35 :: s36 :: s37 :: s38 :: s39 :: s40 :: s41 :: s42 :: s43 :: s44 :: s45 :: s46 :: s47 :: s48 :: s49 :: s50 :: s51 :: s52 :: s53 :: s54 :: s55 :: s56 :: s57 :: s58 :: s59 :: s60 :: s61 :: s62 :: s63 :: s64 :: s65 :: s66 :: s67 :: s68 :: [] : List Value).toArray, defers := [] } w0 := by
  refine wp_region_est (by kernel_rfl) (est2 0 0 (fun _ => False) (fun _ => False)) tp3_C (tp3_F w0 B gt pt tt gu pu tu gv pv tv) (est2_dis (fun _ h _ => h)) (est2_range (fun _ h => h.elim) (fun _ h => h.elim)) (by rfl) (by kernel_rfl) (tp3_obs w0.drew B gt pt tt gu pu tu gv pv tv hB hx3 (TmS.same hin3 (fun _ _ _ => rfl)) hx4 (TmS.same hin4 (fun _ _ _ => rfl)) hx5 (TmS.same hin5 (fun _ _ _ => rfl)) _ _ rfl rfl rfl) ?_
  intro a w' O hd hs hb hf hf2 ha hsame
  have hl := slots_eq (ops := tp3_ops.toArray) [(7, a.tmps.getD 7 undef), (36, tmV pt tt), (37, tmV pu tu), (38, a.tmps.getD 38 undef), (39, tmV pv tv), (40, a.tmps.getD 40 undef)] (show a.tmps.size = 69 from hs) (fun i h => hsame i h) ⟨rfl, (hf 0 _ 36 rfl rfl (by decide)).1, (hf 1 _ 37 rfl rfl (by decide)).1, rfl, (hf 3 _ 39 rfl rfl (by decide)).1, rfl, trivial⟩ (by kernel_rfl)
  obtain ⟨tmps, defers⟩ := a
  obtain rfl : defers = [] := hd
  have hl' : tmps = _ := hl
  rw [hl']
  obtain ⟨⟨v6, hv6⟩, ho6⟩ := hf2 6 _ rfl rfl (by decide)
  have hb' := est2_chg hb
  refine Eq.mp ?_ (hend w' (tmps.getD 7 undef) (tmps.getD 38 undef) (tmps.getD 40 undef) v6 (O 6) ⟨hb'.os, hb'.tape, hb'.output, hb'.size, hb'.block⟩ hv6 ho6)
  kernel_rfl

def tp4_ops : List Oper := [
  { dst := some 41, op := Go.Op.call { callee := Go.Callee.value (Go.Operand.func 28), args := #[Go.Operand.const (Go.Value.string { data := #[100] }), Go.Operand.const (Go.Value.slice none 0 0)], argTypes := #[9, 23] }, type := 28, pos := "law.go:165", after := #[], guard := none },
  { dst := some 42, op := Go.Op.load 28 (Go.Operand.tmp 3), type := 28, pos := "law.go:165", after := #[], guard := none },
  { dst := some 43, op := Go.Op.call { callee := Go.Callee.value (Go.Operand.func 31), args := #[Go.Operand.tmp 41, Go.Operand.tmp 42], argTypes := #[28, 28] }, type := 28, pos := "law.go:165", after := #[{ on := 0, ground := Go.Ground.data }, { on := 1, ground := Go.Ground.data }, { on := 0, ground := Go.Ground.chain }], guard := none },
  { dst := some 44, op := Go.Op.load 28 (Go.Operand.tmp 5), type := 28, pos := "law.go:165", after := #[], guard := none },
  { dst := some 45, op := Go.Op.call { callee := Go.Callee.value (Go.Operand.func 17), args := #[Go.Operand.tmp 43, Go.Operand.tmp 44], argTypes := #[28, 28] }, type := 28, pos := "law.go:165", after := #[{ on := 2, ground := Go.Ground.data }, { on := 3, ground := Go.Ground.data }, { on := 2, ground := Go.Ground.chain }], guard := none },
  { dst := some 8, op := Go.Op.alloc 28, type := 0, pos := "law.go:165", after := #[], guard := none },
  { dst := none, op := Go.Op.store 28 (Go.Operand.tmp 8) (Go.Operand.tmp 45), type := 0, pos := "law.go:165", after := #[{ on := 5, ground := Go.Ground.data }, { on := 4, ground := Go.Ground.data }, { on := 4, ground := Go.Ground.chain }, { on := 0, ground := Go.Ground.phase }, { on := 1, ground := Go.Ground.phase }, { on := 2, ground := Go.Ground.phase }, { on := 3, ground := Go.Ground.phase }, { on := 4, ground := Go.Ground.phase }, { on := 5, ground := Go.Ground.phase }], guard := none }]
def tp4_F (w0 : World) (B : Nat) (gt : Nat) (pt : Pl) (tt : Tm) (gv : Nat) (pv : Pl) (tv : Tm) : Nat → (Nat → Value) → Value → World → (Nat → Prop) → Prop := fun rix => match rix with
  | 0 => fun τ v w O => TmO (fun k => k < B) (aC 100) v w O
  | 1 => fun _ v _ _ => v = tmV pt tt
  | 2 => fun τ v w O => TmO (fun k => k < B) (madeT 4 [aC 100, tt]) v w O
  | 3 => fun _ v _ _ => v = tmV pv tv
  | 4 => fun τ v w O => TmO (fun k => k < B) (InstT (madeT 4 [aC 100, tt]) tv) v w O
  | 5 => fun τ v w O => ∃ p, v = .pointer (some ⟨p, 0, none⟩) ∧ w.heap[p]? = some (tmO plz zeroT) ∧ O p
  | 6 => fun τ v w O => ∃ p, τ 8 = .pointer (some ⟨p, 0, none⟩) ∧ TmBox p (fun k => k < B) (InstT (madeT 4 [aC 100, tt]) tv) w O
  | _ => fun _ _ _ _ => True
def tp4_C : Nat → List Nat := fun rix => match rix with
  | 4 => [2]
  | 6 => [5, 4]
  | _ => []
theorem tp4_nw3 : nwB tp4_ops.toArray 3 = true := by kernel_rfl
theorem tp4_nw5 : nwB tp4_ops.toArray 5 = true := by kernel_rfl
set_option maxRecDepth 100000 in
set_option maxHeartbeats 8000000 in
theorem tp4_obs (w0 : World) (B : Nat) (gt : Nat) (pt : Pl) (tt : Tm) (gv : Nat) (pv : Pl) (tv : Tm) (hB : B ≤ w0.heap.size) (hx3 : w0.heap[gt]? = some (tmO pt tt)) (hin3 : TmIn w0 B pt tt) (hx5 : w0.heap[gv]? = some (tmO pv tv)) (hin5 : TmIn w0 B pv tv) (Q : Exit → Act → World → Prop) (a0 : Act) (hi3 : a0.tmps.getD 3 undef = .pointer (some ⟨gt, 0, none⟩)) (hi5 : a0.tmps.getD 5 undef = .pointer (some ⟨gv, 0, none⟩)) :
    ObsE Try.prog tp4_ops.toArray Q (est2 0 0 (fun _ => False) (fun _ => False)) tp4_C (tp4_F w0 B gt pt tt gv pv tv) a0 w0 tp4_ops.toArray.toList 0 := by
  have nw3 := tp4_nw3
  have nw5 := tp4_nw5
  refine ⟨?_, ?_, ?_, ?_, ?_, ?_, ?_, trivial⟩
  · refine ⟨⟨fun τ => stableE_tm (fun k hk' => est2_fix (Nat.lt_of_lt_of_le hk' hB) (fun e => e.elim) (fun e => e.elim)), leans_not⟩, ?_⟩
    intro a w O hk
    have x3 := hk.world.still hx3 (fun ⟨_, h⟩ => h.elim And.right And.right)
    have x5 := hk.world.still hx5 (fun ⟨_, h⟩ => h.elim And.right And.right)
    have hfx : ∀ k, k < B → w.heap[k]? = w0.heap[k]? := fun k hk' => hk.fix k ((fun k hk' => est2_fix (Nat.lt_of_lt_of_le hk' hB) (fun e => e.elim) (fun e => e.elim)) k hk')
    have hsz := hk.world.size
    have y3 := hin3.same (w' := w) (fun k hk' _ => hfx k hk')
    have y5 := hin5.same (w' := w) (fun k hk' _ => hfx k hk')
    exact obE_tmCall #[.string ⟨#[100]⟩, .slice none 0 0] rfl rfl rfl rfl (by simp only [List.map_cons, List.map_nil]; try rfl) (wanted_none rfl) ((TmGot.as (tconst_calls B ⟨#[100]⟩ none 0 0 [] w (Nat.le_trans hB hsz) rfl (by decide) (by decide) (LvS.leaf _ _ _ _)) (cons_aC 100)).mono fun e w' ⟨q9, h1, h2, h3⟩ => ⟨q9, h1, h2.mono fun k h _ => h.elim (fun h => .inl (.inl h)) .inr, h3⟩)
  · refine ⟨⟨fun τ => stableE_det _, leans_not⟩, ?_⟩
    intro a w O hk
    have e3 : a.eval (.tmp 3) = .pointer (some ⟨gt, 0, none⟩) := (hk.init 3 (initialB_of_nw nw3)).trans hi3
    have x3 := hk.world.still hx3 (fun ⟨_, h⟩ => h.elim And.right And.right)
    have x5 := hk.world.still hx5 (fun ⟨_, h⟩ => h.elim And.right And.right)
    have hfx : ∀ k, k < B → w.heap[k]? = w0.heap[k]? := fun k hk' => hk.fix k ((fun k hk' => est2_fix (Nat.lt_of_lt_of_le hk' hB) (fun e => e.elim) (fun e => e.elim)) k hk')
    have hsz := hk.world.size
    have y3 := hin3.same (w' := w) (fun k hk' _ => hfx k hk')
    have y5 := hin5.same (w' := w) (fun k hk' _ => hfx k hk')
    exact obE_loadRow rfl e3 x3 Try.underlying28 rfl (by kernel_rfl) (wanted_none rfl) rfl
  · refine ⟨⟨fun τ => stableE_tm (fun k hk' => est2_fix (Nat.lt_of_lt_of_le hk' hB) (fun e => e.elim) (fun e => e.elim)), leans_not⟩, ?_⟩
    intro a w O hk
    have f41 := hk.fact 0 _ 41 rfl rfl rfl rfl
    have g41 := hk.owns 0 rfl rfl
    have e42 : a.eval (.tmp 42) = tmV pt tt := hk.fact 1 _ 42 rfl rfl rfl rfl
    have x3 := hk.world.still hx3 (fun ⟨_, h⟩ => h.elim And.right And.right)
    have x5 := hk.world.still hx5 (fun ⟨_, h⟩ => h.elim And.right And.right)
    have hfx : ∀ k, k < B → w.heap[k]? = w0.heap[k]? := fun k hk' => hk.fix k ((fun k hk' => est2_fix (Nat.lt_of_lt_of_le hk' hB) (fun e => e.elim) (fun e => e.elim)) k hk')
    have hsz := hk.world.size
    have y3 := hin3.same (w' := w) (fun k hk' _ => hfx k hk')
    have y5 := hin5.same (w' := w) (fun k hk' _ => hfx k hk')
    obtain ⟨q41, z41, h41⟩ := f41
    replace z41 : a.eval (.tmp 41) = _ := z41
    exact obE_tmCall #[tmV q41 (aC 100), tmV pt tt] rfl rfl rfl rfl (by simp only [List.map_cons, List.map_nil]; rw [z41, e42]) (wanted_none rfl) ((lam_calls B q41 (aC 100) pt tt w (Nat.le_trans hB hsz) (h41.any rfl rfl rfl) y3).mono fun e w' ⟨q9, h1, h2, h3⟩ => ⟨q9, h1, h2.mono fun k h _ => h.elim (fun h => .inl (.inl h)) .inr, h3⟩)
  · refine ⟨⟨fun τ => stableE_det _, leans_not⟩, ?_⟩
    intro a w O hk
    have e5 : a.eval (.tmp 5) = .pointer (some ⟨gv, 0, none⟩) := (hk.init 5 (initialB_of_nw nw5)).trans hi5
    have x3 := hk.world.still hx3 (fun ⟨_, h⟩ => h.elim And.right And.right)
    have x5 := hk.world.still hx5 (fun ⟨_, h⟩ => h.elim And.right And.right)
    have hfx : ∀ k, k < B → w.heap[k]? = w0.heap[k]? := fun k hk' => hk.fix k ((fun k hk' => est2_fix (Nat.lt_of_lt_of_le hk' hB) (fun e => e.elim) (fun e => e.elim)) k hk')
    have hsz := hk.world.size
    have y3 := hin3.same (w' := w) (fun k hk' _ => hfx k hk')
    have y5 := hin5.same (w' := w) (fun k hk' _ => hfx k hk')
    exact obE_loadRow rfl e5 x5 Try.underlying28 rfl (by kernel_rfl) (wanted_none rfl) rfl
  · refine ⟨⟨fun τ => stableE_tm (fun k hk' => est2_fix (Nat.lt_of_lt_of_le hk' hB) (fun e => e.elim) (fun e => e.elim)), leans_not⟩, ?_⟩
    intro a w O hk
    have f43 := hk.fact 2 _ 43 rfl rfl rfl rfl
    have g43 := hk.owns 2 rfl rfl
    have e44 : a.eval (.tmp 44) = tmV pv tv := hk.fact 3 _ 44 rfl rfl rfl rfl
    have x3 := hk.world.still hx3 (fun ⟨_, h⟩ => h.elim And.right And.right)
    have x5 := hk.world.still hx5 (fun ⟨_, h⟩ => h.elim And.right And.right)
    have hfx : ∀ k, k < B → w.heap[k]? = w0.heap[k]? := fun k hk' => hk.fix k ((fun k hk' => est2_fix (Nat.lt_of_lt_of_le hk' hB) (fun e => e.elim) (fun e => e.elim)) k hk')
    have hsz := hk.world.size
    have y3 := hin3.same (w' := w) (fun k hk' _ => hfx k hk')
    have y5 := hin5.same (w' := w) (fun k hk' _ => hfx k hk')
    obtain ⟨q43, z43, h43⟩ := f43
    replace z43 : a.eval (.tmp 43) = _ := z43
    exact obE_tmCall #[tmV q43 (madeT 4 [aC 100, tt]), tmV pv tv] rfl rfl rfl rfl (by simp only [List.map_cons, List.map_nil]; rw [z43, e44]; try rfl) (wanted_none rfl) ((InstS_calls (fun k => k < B ∨ O 2 k) w.heap.size (fun k h => h.elim (fun h => Nat.lt_of_lt_of_le h (Nat.le_trans hB hsz)) fun h => (g43 k h).1) (madeT 4 [aC 100, tt]) tv q43 pv w (Nat.le_refl _) (TmS.mono h43 fun k h _ => h.imp id id) (TmS.mono y5 fun k h _ => .inl h)).mono fun e w' ⟨q9, h1, h2, h3⟩ => ⟨q9, h1, h2.mono fun k h _ => h.elim (fun h => .inl (h.elim .inl fun h => .inr (.inl ⟨2, by simp [tp4_C], h⟩))) .inr, h3⟩)
  · refine ⟨⟨fun τ => stableE_ex fun p => stableE_and stableE_pure (stableE_block _ _), leans_not⟩, ?_⟩
    intro a w O hk
    have x3 := hk.world.still hx3 (fun ⟨_, h⟩ => h.elim And.right And.right)
    have x5 := hk.world.still hx5 (fun ⟨_, h⟩ => h.elim And.right And.right)
    have hfx : ∀ k, k < B → w.heap[k]? = w0.heap[k]? := fun k hk' => hk.fix k ((fun k hk' => est2_fix (Nat.lt_of_lt_of_le hk' hB) (fun e => e.elim) (fun e => e.elim)) k hk')
    have hsz := hk.world.size
    have y3 := hin3.same (w' := w) (fun k hk' _ => hfx k hk')
    have y5 := hin5.same (w' := w) (fun k hk' _ => hfx k hk')
    exact obE_res (w' := w.alloc (tmO plz zeroT)) (fun k => k = w.heap.size) (wanted_none rfl) (by unfold execOp; simp only []; go_simp; rfl) (Chg.of_below ((Below.refl _ _).alloc (Nat.le_refl _) _)) ⟨_, rfl, blk_new _ _, rfl⟩ (fun k hk => .inr ⟨by omega, by simp; omega⟩)
  · refine ⟨⟨fun τ => stableE_ex fun p v w w' O h hz hk => ⟨h.1, stableE_tmbox (fun k hk' => est2_fix (Nat.lt_of_lt_of_le hk' hB) (fun e => e.elim) (fun e => e.elim)) v w w' O h.2 hz hk⟩, fun τ τ' h => by have e : τ' 8 = τ 8 := h 5 _ 8 rfl rfl rfl; show (fun v w O => ∃ p, τ 8 = _ ∧ TmBox p _ _ w O) = (fun v w O => ∃ p, τ' 8 = _ ∧ TmBox p _ _ w O); rw [e]⟩, ?_⟩
    intro a w O hk
    have f8 := hk.fact 5 _ 8 rfl rfl rfl rfl
    have g8 := hk.owns 5 rfl rfl
    have f45 := hk.fact 4 _ 45 rfl rfl rfl rfl
    have g45 := hk.owns 4 rfl rfl
    have x3 := hk.world.still hx3 (fun ⟨_, h⟩ => h.elim And.right And.right)
    have x5 := hk.world.still hx5 (fun ⟨_, h⟩ => h.elim And.right And.right)
    have hfx : ∀ k, k < B → w.heap[k]? = w0.heap[k]? := fun k hk' => hk.fix k ((fun k hk' => est2_fix (Nat.lt_of_lt_of_le hk' hB) (fun e => e.elim) (fun e => e.elim)) k hk')
    have hsz := hk.world.size
    have y3 := hin3.same (w' := w) (fun k hk' _ => hfx k hk')
    have y5 := hin5.same (w' := w) (fun k hk' _ => hfx k hk')
    obtain ⟨p9, zp, xp, hOp⟩ := f8
    exact obE_tmPut (T := fun k => k < B) rfl (wanted_none rfl) zp xp f45 (.inl ⟨5, by simp [tp4_C], hOp⟩) (fun k h => .inl ⟨4, by simp [tp4_C], h⟩) (fun h => (g8 p9 hOp).2 ((fun k hk' => est2_fix (Nat.lt_of_lt_of_le hk' hB) (fun e => e.elim) (fun e => e.elim)) p9 h)) (hk.apart 5 4 rfl rfl rfl rfl (by decide) p9 hOp) zp
set_option maxRecDepth 100000 in
set_option maxHeartbeats 8000000 in
theorem tp4_region {Q : Exit → Act → World → Prop} {id : Nat} (w0 : World) (B : Nat) (gt : Nat) (pt : Pl) (tt : Tm) (gv : Nat) (pv : Pl) (tv : Tm) {s0 s1 s2 s4 s6 s7 s8 s9 s10 s11 s12 s13 s14 s15 s16 s17 s18 s19 s20 s21 s22 s23 s24 s25 s26 s27 s28 s29 s30 s31 s32 s33 s34 s35 s36 s37 s38 s39 s40 s41 s42 s43 s44 s45 s46 s47 s48 s49 s50 s51 s52 s53 s54 s55 s56 s57 s58 s59 s60 s61 s62 s63 s64 s65 s66 s67 s68 : Value} (hB : B ≤ w0.heap.size) (hx3 : w0.heap[gt]? = some (tmO pt tt)) (hin3 : TmIn w0 B pt tt) (hx5 : w0.heap[gv]? = some (tmO pv tv)) (hin5 : TmIn w0 B pv tv)
    (hend : ∀ (w' : World) (u8 : Value) (u41 : Value) (u43 : Value) (u45 : Value) (O0 : Nat → Prop) (v6 : Value) (O6 : Nat → Prop), Chg (fun k => False ∨ False) w0 w' → (TmO (fun k => k < B) (aC 100) u41 w' O0) → (∀ k, O0 k → k < w'.heap.size ∧ ¬ Fix w0 (est2 0 0 (fun _ => False) (fun _ => False)) k) → (∃ p, u8 = .pointer (some ⟨p, 0, none⟩) ∧ TmBox p (fun k => k < B) (InstT (madeT 4 [aC 100, tt]) tv) w' O6) → (∀ k, O6 k → k < w'.heap.size ∧ ¬ Fix w0 (est2 0 0 (fun _ => False) (fun _ => False)) k) → Q .normal { tmps := (s0 :: s1 :: s2 :: (.pointer (some ⟨gt, 0, none⟩)) :: s4 :: (.pointer (some ⟨gv, 0, none⟩)) :: s6 :: s7 :: u8 :: s9 :: s10 :: s11 :: s12 :: s13 :: s14 :: s15 :: s16 :: s17 :: s18 :: s19 :: s20 :: s21 :: s22 :: s23 :: s24 :: s25 :: s26 :: s27 :: s28 :: s29 :: s30 :: s31 :: s32 :: s33 :: s34 :: s35 :: s36 :: s37 :: s38 :: s39 :: s40 :: u41 :: (tmV pt tt) :: u43 :: (tmV pv tv) :: u45 :: s46 :: s47 :: s48 :: s49 :: s50 :: s51 :: s52 :: s53 :: s54 :: s55 :: s56 :: s57 :: s58 :: s59 :: s60 :: s61 :: s62 :: s63 :: s64 :: s65 :: s66 :: s67 :: s68 :: [] : List Value).toArray, defers := [] } w') :
    (Code.region id tp4_ops.toArray true).wp Try.prog Q { tmps := (s0 :: s1 :: s2 :: (.pointer (some ⟨gt, 0, none⟩)) :: s4 :: (.pointer (some ⟨gv, 0, none⟩)) :: s6 :: s7 :: s8 :: s9 :: s10 :: s11 :: s12 :: s13 :: s14 :: s15 :: s16 :: s17 :: s18 :: s19 :: s20 :: s21 :: s22 :: s23 :: s24 :: s25 :: s26 :: s27 :: s28 :: s29 :: s30 :: s31 :: s32 :: s33 :: s34 :: s35 :: s36 :: s37 :: s38 :: s39 :: s40 :: s41 :: s42 :: s43 :: s44 :: s45 :: s46 :: s47 :: s48 :: s49 :: s50 :: s51 :: s52 :: s53 :: s54 :: s55 :: s56 :: s57 :: s58 :: s59 :: s60 :: s61 :: s62 :: s63 :: s64 :: s65 :: s66 :: s67 :: s68 :: [] : List Value).toArray, defers := [] } w0 := by
  refine wp_region_est (by kernel_rfl) (est2 0 0 (fun _ => False) (fun _ => False)) tp4_C (tp4_F w0 B gt pt tt gv pv tv) (est2_dis (fun _ h _ => h)) (est2_range (fun _ h => h.elim) (fun _ h => h.elim)) (by rfl) (by kernel_rfl) (tp4_obs w0.drew B gt pt tt gv pv tv hB hx3 (TmS.same hin3 (fun _ _ _ => rfl)) hx5 (TmS.same hin5 (fun _ _ _ => rfl)) _ _ rfl rfl) ?_
  intro a w' O hd hs hb hf hf2 ha hsame
  have hl := slots_eq (ops := tp4_ops.toArray) [(8, a.tmps.getD 8 undef), (41, a.tmps.getD 41 undef), (42, tmV pt tt), (43, a.tmps.getD 43 undef), (44, tmV pv tv), (45, a.tmps.getD 45 undef)] (show a.tmps.size = 69 from hs) (fun i h => hsame i h) ⟨rfl, rfl, (hf 1 _ 42 rfl rfl (by decide)).1, rfl, (hf 3 _ 44 rfl rfl (by decide)).1, rfl, trivial⟩ (by kernel_rfl)
  obtain ⟨tmps, defers⟩ := a
  obtain rfl : defers = [] := hd
  have hl' : tmps = _ := hl
  rw [hl']
  obtain ⟨⟨v6, hv6⟩, ho6⟩ := hf2 6 _ rfl rfl (by decide)
  have hb' := est2_chg hb
  refine Eq.mp ?_ (hend w' (tmps.getD 8 undef) (tmps.getD 41 undef) (tmps.getD 43 undef) (tmps.getD 45 undef) (O 0) v6 (O 6) ⟨hb'.os, hb'.tape, hb'.output, hb'.size, hb'.block⟩ (hf 0 _ 41 rfl rfl (by decide)).1 (hf 0 _ 41 rfl rfl (by decide)).2 hv6 ho6)
  kernel_rfl

def tp7_ops : List Oper := [
  { dst := some 55, op := Go.Op.fieldAddr 28 (Go.Operand.tmp 8) 5, type := 0, pos := "law.go:169", after := #[], guard := none },
  { dst := some 56, op := Go.Op.load 26 (Go.Operand.tmp 55), type := 26, pos := "law.go:169", after := #[{ on := 0, ground := Go.Ground.data }], guard := none },
  { dst := some 57, op := Go.Op.indexAddr 26 (Go.Operand.tmp 56) (Go.Operand.const (Go.Value.int Go.IntKind.i64 1)), type := 0, pos := "law.go:169", after := #[{ on := 1, ground := Go.Ground.data }], guard := none },
  { dst := some 58, op := Go.Op.load 28 (Go.Operand.tmp 57), type := 28, pos := "law.go:169", after := #[{ on := 2, ground := Go.Ground.data }], guard := none },
  { dst := some 59, op := Go.Op.load 28 (Go.Operand.tmp 4), type := 28, pos := "law.go:169", after := #[], guard := none },
  { dst := some 60, op := Go.Op.load 28 (Go.Operand.tmp 5), type := 28, pos := "law.go:169", after := #[], guard := none },
  { dst := some 61, op := Go.Op.call { callee := Go.Callee.value (Go.Operand.func 17), args := #[Go.Operand.tmp 59, Go.Operand.tmp 60], argTypes := #[28, 28] }, type := 28, pos := "law.go:169", after := #[{ on := 4, ground := Go.Ground.data }, { on := 5, ground := Go.Ground.data }], guard := none },
  { dst := some 62, op := Go.Op.call { callee := Go.Callee.value (Go.Operand.func 17), args := #[Go.Operand.tmp 58, Go.Operand.tmp 61], argTypes := #[28, 28] }, type := 28, pos := "law.go:169", after := #[{ on := 3, ground := Go.Ground.data }, { on := 6, ground := Go.Ground.data }, { on := 6, ground := Go.Ground.chain }], guard := none },
  { dst := some 9, op := Go.Op.alloc 28, type := 0, pos := "law.go:169", after := #[], guard := none },
  { dst := none, op := Go.Op.store 28 (Go.Operand.tmp 9) (Go.Operand.tmp 62), type := 0, pos := "law.go:169", after := #[{ on := 8, ground := Go.Ground.data }, { on := 7, ground := Go.Ground.data }, { on := 7, ground := Go.Ground.chain }, { on := 0, ground := Go.Ground.phase }, { on := 1, ground := Go.Ground.phase }, { on := 2, ground := Go.Ground.phase }, { on := 3, ground := Go.Ground.phase }, { on := 4, ground := Go.Ground.phase }, { on := 5, ground := Go.Ground.phase }, { on := 6, ground := Go.Ground.phase }, { on := 7, ground := Go.Ground.phase }, { on := 8, ground := Go.Ground.phase }], guard := none }]
def tp7_F (w0 : World) (B : Nat) (gu : Nat) (pu : Pl) (tu : Tm) (gv : Nat) (pv : Pl) (tv : Tm) (gx : Nat) (px : Pl) (tx : Tm) (gd od : Nat) (pk : Pl) (tk : Tm) : Nat → (Nat → Value) → Value → World → (Nat → Prop) → Prop := fun rix => match rix with
  | 0 => fun _ v _ _ => v = .pointer (some ⟨gx, 7, none⟩)
  | 1 => fun _ v _ _ => v = .slice (some ⟨gd, od, none⟩) 2 px.e
  | 2 => fun _ v _ _ => v = .pointer (some ⟨gd, od + 1 * 8, none⟩)
  | 3 => fun _ v _ _ => v = tmV pk tk
  | 4 => fun _ v _ _ => v = tmV pu tu
  | 5 => fun _ v _ _ => v = tmV pv tv
  | 6 => fun τ v w O => TmO (fun k => k < B) (InstT tu tv) v w O
  | 7 => fun τ v w O => TmO (fun k => k < B) (InstT tk (InstT tu tv)) v w O
  | 8 => fun τ v w O => ∃ p, v = .pointer (some ⟨p, 0, none⟩) ∧ w.heap[p]? = some (tmO plz zeroT) ∧ O p
  | 9 => fun τ v w O => ∃ p, τ 9 = .pointer (some ⟨p, 0, none⟩) ∧ TmBox p (fun k => k < B) (InstT tk (InstT tu tv)) w O
  | _ => fun _ _ _ _ => True
def tp7_C : Nat → List Nat := fun rix => match rix with
  | 7 => [6]
  | 9 => [8, 7]
  | _ => []
theorem tp7_nw4 : nwB tp7_ops.toArray 4 = true := by kernel_rfl
theorem tp7_nw5 : nwB tp7_ops.toArray 5 = true := by kernel_rfl
theorem tp7_nw8 : nwB tp7_ops.toArray 8 = true := by kernel_rfl
set_option maxRecDepth 100000 in
set_option maxHeartbeats 8000000 in
theorem tp7_obs (w0 : World) (B : Nat) (gu : Nat) (pu : Pl) (tu : Tm) (gv : Nat) (pv : Pl) (tv : Tm) (gx : Nat) (px : Pl) (tx : Tm) (gd od : Nat) (pk : Pl) (tk : Tm) (hB : B ≤ w0.heap.size) (hx4 : w0.heap[gu]? = some (tmO pu tu)) (hin4 : TmIn w0 B pu tu) (hx5 : w0.heap[gv]? = some (tmO pv tv)) (hin5 : TmIn w0 B pv tv) (hx8 : w0.heap[gx]? = some (tmO px tx)) (hin8 : TmIn w0 B px tx) (hxK : px.K = some ⟨gd, od, none⟩) (hxl : tx.kids.length = 2) (hxe : 2 ≤ px.e ∧ px.e ≤ 9223372036854775807) (hgd : gd < B) (cb0 : w0.cell? ⟨gd, od + 1 * 8, none⟩ = some (.int .i64 tk.kind)) (cb1 : w0.cell? ⟨gd, od + 1 * 8 + 1, none⟩ = some (.int .i64 tk.num)) (cb2 : w0.cell? ⟨gd, od + 1 * 8 + 2, none⟩ = some (.string tk.name)) (cb3 : w0.cell? ⟨gd, od + 1 * 8 + 3, none⟩ = some (.int .i64 tk.lv.kind)) (cb4 : w0.cell? ⟨gd, od + 1 * 8 + 4, none⟩ = some (.int .i64 tk.lv.num)) (cb5 : w0.cell? ⟨gd, od + 1 * 8 + 5, none⟩ = some (.slice pk.A tk.lv.kids.length pk.c)) (cb6 : w0.cell? ⟨gd, od + 1 * 8 + 6, none⟩ = some (.slice pk.B tk.ls.length pk.d)) (cb7 : w0.cell? ⟨gd, od + 1 * 8 + 7, none⟩ = some (.slice pk.K tk.kids.length pk.e)) (hkin : TmIn w0 B pk tk) (Q : Exit → Act → World → Prop) (a0 : Act) (hi4 : a0.tmps.getD 4 undef = .pointer (some ⟨gu, 0, none⟩)) (hi5 : a0.tmps.getD 5 undef = .pointer (some ⟨gv, 0, none⟩)) (hi8 : a0.tmps.getD 8 undef = .pointer (some ⟨gx, 0, none⟩)) :
    ObsE Try.prog tp7_ops.toArray Q (est2 0 0 (fun _ => False) (fun _ => False)) tp7_C (tp7_F w0 B gu pu tu gv pv tv gx px tx gd od pk tk) a0 w0 tp7_ops.toArray.toList 0 := by
  have nw4 := tp7_nw4
  have nw5 := tp7_nw5
  have nw8 := tp7_nw8
  refine ⟨?_, ?_, ?_, ?_, ?_, ?_, ?_, ?_, ?_, ?_, trivial⟩
  · refine ⟨⟨fun τ => stableE_det _, leans_not⟩, ?_⟩
    intro a w O hk
    have e8 : a.eval (.tmp 8) = .pointer (some ⟨gx, 0, none⟩) := (hk.init 8 (initialB_of_nw nw8)).trans hi8
    have x4 := hk.world.still hx4 (fun ⟨_, h⟩ => h.elim And.right And.right)
    have x5 := hk.world.still hx5 (fun ⟨_, h⟩ => h.elim And.right And.right)
    have x8 := hk.world.still hx8 (fun ⟨_, h⟩ => h.elim And.right And.right)
    have hfx : ∀ k, k < B → w.heap[k]? = w0.heap[k]? := fun k hk' => hk.fix k ((fun k hk' => est2_fix (Nat.lt_of_lt_of_le hk' hB) (fun e => e.elim) (fun e => e.elim)) k hk')
    have hsz := hk.world.size
    have y4 := hin4.same (w' := w) (fun k hk' _ => hfx k hk')
    have y5 := hin5.same (w' := w) (fun k hk' _ => hfx k hk')
    have y8 := hin8.same (w' := w) (fun k hk' _ => hfx k hk')
    have hcd : ∀ j, w.cell? ⟨gd, j, none⟩ = w0.cell? ⟨gd, j, none⟩ := fun j => cell_same (hfx _ hgd)
    have yk := hkin.same (w' := w) (fun k hk' _ => hfx k hk')
    exact obE_run (wanted_none rfl) (by unfold execOp; simp only []; rw [e8]; go_simp) rfl
  · refine ⟨⟨fun τ => stableE_det _, leans_not⟩, ?_⟩
    intro a w O hk
    have e55 : a.eval (.tmp 55) = .pointer (some ⟨gx, 7, none⟩) := hk.fact 0 _ 55 rfl rfl rfl rfl
    have x4 := hk.world.still hx4 (fun ⟨_, h⟩ => h.elim And.right And.right)
    have x5 := hk.world.still hx5 (fun ⟨_, h⟩ => h.elim And.right And.right)
    have x8 := hk.world.still hx8 (fun ⟨_, h⟩ => h.elim And.right And.right)
    have hfx : ∀ k, k < B → w.heap[k]? = w0.heap[k]? := fun k hk' => hk.fix k ((fun k hk' => est2_fix (Nat.lt_of_lt_of_le hk' hB) (fun e => e.elim) (fun e => e.elim)) k hk')
    have hsz := hk.world.size
    have y4 := hin4.same (w' := w) (fun k hk' _ => hfx k hk')
    have y5 := hin5.same (w' := w) (fun k hk' _ => hfx k hk')
    have y8 := hin8.same (w' := w) (fun k hk' _ => hfx k hk')
    have hcd : ∀ j, w.cell? ⟨gd, j, none⟩ = w0.cell? ⟨gd, j, none⟩ := fun j => cell_same (hfx _ hgd)
    have yk := hkin.same (w' := w) (fun k hk' _ => hfx k hk')
    obtain ⟨p0, p1, p2, p3, p4, p5, p6, p7⟩ := row8 x8
    rw [hxK, hxl] at p7
    exact obE_run (wanted_none rfl) (by unfold execOp; simp only []; rw [e55]; go_simp) rfl
  · refine ⟨⟨fun τ => stableE_det _, leans_not⟩, ?_⟩
    intro a w O hk
    have e56 : a.eval (.tmp 56) = .slice (some ⟨gd, od, none⟩) 2 px.e := hk.fact 1 _ 56 rfl rfl rfl rfl
    have x4 := hk.world.still hx4 (fun ⟨_, h⟩ => h.elim And.right And.right)
    have x5 := hk.world.still hx5 (fun ⟨_, h⟩ => h.elim And.right And.right)
    have x8 := hk.world.still hx8 (fun ⟨_, h⟩ => h.elim And.right And.right)
    have hfx : ∀ k, k < B → w.heap[k]? = w0.heap[k]? := fun k hk' => hk.fix k ((fun k hk' => est2_fix (Nat.lt_of_lt_of_le hk' hB) (fun e => e.elim) (fun e => e.elim)) k hk')
    have hsz := hk.world.size
    have y4 := hin4.same (w' := w) (fun k hk' _ => hfx k hk')
    have y5 := hin5.same (w' := w) (fun k hk' _ => hfx k hk')
    have y8 := hin8.same (w' := w) (fun k hk' _ => hfx k hk')
    have hcd : ∀ j, w.cell? ⟨gd, j, none⟩ = w0.cell? ⟨gd, j, none⟩ := fun j => cell_same (hfx _ hgd)
    have yk := hkin.same (w' := w) (fun k hk' _ => hfx k hk')
    exact obE_run (wanted_none rfl) (by unfold execOp; simp only []; rw [e56]; go_simp) rfl
  · refine ⟨⟨fun τ => stableE_det _, leans_not⟩, ?_⟩
    intro a w O hk
    have e57 : a.eval (.tmp 57) = .pointer (some ⟨gd, od + 1 * 8, none⟩) := hk.fact 2 _ 57 rfl rfl rfl rfl
    have x4 := hk.world.still hx4 (fun ⟨_, h⟩ => h.elim And.right And.right)
    have x5 := hk.world.still hx5 (fun ⟨_, h⟩ => h.elim And.right And.right)
    have x8 := hk.world.still hx8 (fun ⟨_, h⟩ => h.elim And.right And.right)
    have hfx : ∀ k, k < B → w.heap[k]? = w0.heap[k]? := fun k hk' => hk.fix k ((fun k hk' => est2_fix (Nat.lt_of_lt_of_le hk' hB) (fun e => e.elim) (fun e => e.elim)) k hk')
    have hsz := hk.world.size
    have y4 := hin4.same (w' := w) (fun k hk' _ => hfx k hk')
    have y5 := hin5.same (w' := w) (fun k hk' _ => hfx k hk')
    have y8 := hin8.same (w' := w) (fun k hk' _ => hfx k hk')
    have hcd : ∀ j, w.cell? ⟨gd, j, none⟩ = w0.cell? ⟨gd, j, none⟩ := fun j => cell_same (hfx _ hgd)
    have yk := hkin.same (w' := w) (fun k hk' _ => hfx k hk')
    have r0 := (hcd _).trans cb0
    have r1 := (hcd _).trans cb1
    have r2 := (hcd _).trans cb2
    have r3 := (hcd _).trans cb3
    have r4 := (hcd _).trans cb4
    have r5 := (hcd _).trans cb5
    have r6 := (hcd _).trans cb6
    have r7 := (hcd _).trans cb7
    exact obE_run (wanted_none rfl) (by unfold execOp; simp only []; rw [e57]; go_simp; rfl) rfl
  · refine ⟨⟨fun τ => stableE_det _, leans_not⟩, ?_⟩
    intro a w O hk
    have e4 : a.eval (.tmp 4) = .pointer (some ⟨gu, 0, none⟩) := (hk.init 4 (initialB_of_nw nw4)).trans hi4
    have x4 := hk.world.still hx4 (fun ⟨_, h⟩ => h.elim And.right And.right)
    have x5 := hk.world.still hx5 (fun ⟨_, h⟩ => h.elim And.right And.right)
    have x8 := hk.world.still hx8 (fun ⟨_, h⟩ => h.elim And.right And.right)
    have hfx : ∀ k, k < B → w.heap[k]? = w0.heap[k]? := fun k hk' => hk.fix k ((fun k hk' => est2_fix (Nat.lt_of_lt_of_le hk' hB) (fun e => e.elim) (fun e => e.elim)) k hk')
    have hsz := hk.world.size
    have y4 := hin4.same (w' := w) (fun k hk' _ => hfx k hk')
    have y5 := hin5.same (w' := w) (fun k hk' _ => hfx k hk')
    have y8 := hin8.same (w' := w) (fun k hk' _ => hfx k hk')
    have hcd : ∀ j, w.cell? ⟨gd, j, none⟩ = w0.cell? ⟨gd, j, none⟩ := fun j => cell_same (hfx _ hgd)
    have yk := hkin.same (w' := w) (fun k hk' _ => hfx k hk')
    exact obE_loadRow rfl e4 x4 Try.underlying28 rfl (by kernel_rfl) (wanted_none rfl) rfl
  · refine ⟨⟨fun τ => stableE_det _, leans_not⟩, ?_⟩
    intro a w O hk
    have e5 : a.eval (.tmp 5) = .pointer (some ⟨gv, 0, none⟩) := (hk.init 5 (initialB_of_nw nw5)).trans hi5
    have x4 := hk.world.still hx4 (fun ⟨_, h⟩ => h.elim And.right And.right)
    have x5 := hk.world.still hx5 (fun ⟨_, h⟩ => h.elim And.right And.right)
    have x8 := hk.world.still hx8 (fun ⟨_, h⟩ => h.elim And.right And.right)
    have hfx : ∀ k, k < B → w.heap[k]? = w0.heap[k]? := fun k hk' => hk.fix k ((fun k hk' => est2_fix (Nat.lt_of_lt_of_le hk' hB) (fun e => e.elim) (fun e => e.elim)) k hk')
    have hsz := hk.world.size
    have y4 := hin4.same (w' := w) (fun k hk' _ => hfx k hk')
    have y5 := hin5.same (w' := w) (fun k hk' _ => hfx k hk')
    have y8 := hin8.same (w' := w) (fun k hk' _ => hfx k hk')
    have hcd : ∀ j, w.cell? ⟨gd, j, none⟩ = w0.cell? ⟨gd, j, none⟩ := fun j => cell_same (hfx _ hgd)
    have yk := hkin.same (w' := w) (fun k hk' _ => hfx k hk')
    exact obE_loadRow rfl e5 x5 Try.underlying28 rfl (by kernel_rfl) (wanted_none rfl) rfl
  · refine ⟨⟨fun τ => stableE_tm (fun k hk' => est2_fix (Nat.lt_of_lt_of_le hk' hB) (fun e => e.elim) (fun e => e.elim)), leans_not⟩, ?_⟩
    intro a w O hk
    have e59 : a.eval (.tmp 59) = tmV pu tu := hk.fact 4 _ 59 rfl rfl rfl rfl
    have e60 : a.eval (.tmp 60) = tmV pv tv := hk.fact 5 _ 60 rfl rfl rfl rfl
    have x4 := hk.world.still hx4 (fun ⟨_, h⟩ => h.elim And.right And.right)
    have x5 := hk.world.still hx5 (fun ⟨_, h⟩ => h.elim And.right And.right)
    have x8 := hk.world.still hx8 (fun ⟨_, h⟩ => h.elim And.right And.right)
    have hfx : ∀ k, k < B → w.heap[k]? = w0.heap[k]? := fun k hk' => hk.fix k ((fun k hk' => est2_fix (Nat.lt_of_lt_of_le hk' hB) (fun e => e.elim) (fun e => e.elim)) k hk')
    have hsz := hk.world.size
    have y4 := hin4.same (w' := w) (fun k hk' _ => hfx k hk')
    have y5 := hin5.same (w' := w) (fun k hk' _ => hfx k hk')
    have y8 := hin8.same (w' := w) (fun k hk' _ => hfx k hk')
    have hcd : ∀ j, w.cell? ⟨gd, j, none⟩ = w0.cell? ⟨gd, j, none⟩ := fun j => cell_same (hfx _ hgd)
    have yk := hkin.same (w' := w) (fun k hk' _ => hfx k hk')
    exact obE_tmCall #[tmV pu tu, tmV pv tv] rfl rfl rfl rfl (by simp only [List.map_cons, List.map_nil]; rw [e59, e60]; try rfl) (wanted_none rfl) ((InstS_calls (fun k => k < B) w.heap.size (fun k h => Nat.lt_of_lt_of_le h (Nat.le_trans hB hsz)) tu tv pu pv w (Nat.le_refl _) (TmS.mono y4 fun k h _ => h) (TmS.mono y5 fun k h _ => h)).mono fun e w' ⟨q9, h1, h2, h3⟩ => ⟨q9, h1, h2.mono fun k h _ => h.elim (fun h => .inl (.inl h)) .inr, h3⟩)
  · refine ⟨⟨fun τ => stableE_tm (fun k hk' => est2_fix (Nat.lt_of_lt_of_le hk' hB) (fun e => e.elim) (fun e => e.elim)), leans_not⟩, ?_⟩
    intro a w O hk
    have e58 : a.eval (.tmp 58) = tmV pk tk := hk.fact 3 _ 58 rfl rfl rfl rfl
    have f61 := hk.fact 6 _ 61 rfl rfl rfl rfl
    have g61 := hk.owns 6 rfl rfl
    have x4 := hk.world.still hx4 (fun ⟨_, h⟩ => h.elim And.right And.right)
    have x5 := hk.world.still hx5 (fun ⟨_, h⟩ => h.elim And.right And.right)
    have x8 := hk.world.still hx8 (fun ⟨_, h⟩ => h.elim And.right And.right)
    have hfx : ∀ k, k < B → w.heap[k]? = w0.heap[k]? := fun k hk' => hk.fix k ((fun k hk' => est2_fix (Nat.lt_of_lt_of_le hk' hB) (fun e => e.elim) (fun e => e.elim)) k hk')
    have hsz := hk.world.size
    have y4 := hin4.same (w' := w) (fun k hk' _ => hfx k hk')
    have y5 := hin5.same (w' := w) (fun k hk' _ => hfx k hk')
    have y8 := hin8.same (w' := w) (fun k hk' _ => hfx k hk')
    have hcd : ∀ j, w.cell? ⟨gd, j, none⟩ = w0.cell? ⟨gd, j, none⟩ := fun j => cell_same (hfx _ hgd)
    have yk := hkin.same (w' := w) (fun k hk' _ => hfx k hk')
    obtain ⟨q61, z61, h61⟩ := f61
    replace z61 : a.eval (.tmp 61) = _ := z61
    exact obE_tmCall #[tmV pk tk, tmV q61 (InstT tu tv)] rfl rfl rfl rfl (by simp only [List.map_cons, List.map_nil]; rw [e58, z61]) (wanted_none rfl) ((InstS_calls (fun k => k < B ∨ O 6 k) w.heap.size (fun k h => h.elim (fun h => Nat.lt_of_lt_of_le h (Nat.le_trans hB hsz)) fun h => (g61 k h).1) tk (InstT tu tv) pk q61 w (Nat.le_refl _) (TmS.mono yk fun k h _ => .inl h) h61).mono fun e w' ⟨q9, h1, h2, h3⟩ => ⟨q9, h1, h2.mono fun k h _ => h.elim (fun h => .inl (h.elim .inl fun h => .inr (.inl ⟨6, by simp [tp7_C], h⟩))) .inr, h3⟩)
  · refine ⟨⟨fun τ => stableE_ex fun p => stableE_and stableE_pure (stableE_block _ _), leans_not⟩, ?_⟩
    intro a w O hk
    have x4 := hk.world.still hx4 (fun ⟨_, h⟩ => h.elim And.right And.right)
    have x5 := hk.world.still hx5 (fun ⟨_, h⟩ => h.elim And.right And.right)
    have x8 := hk.world.still hx8 (fun ⟨_, h⟩ => h.elim And.right And.right)
    have hfx : ∀ k, k < B → w.heap[k]? = w0.heap[k]? := fun k hk' => hk.fix k ((fun k hk' => est2_fix (Nat.lt_of_lt_of_le hk' hB) (fun e => e.elim) (fun e => e.elim)) k hk')
    have hsz := hk.world.size
    have y4 := hin4.same (w' := w) (fun k hk' _ => hfx k hk')
    have y5 := hin5.same (w' := w) (fun k hk' _ => hfx k hk')
    have y8 := hin8.same (w' := w) (fun k hk' _ => hfx k hk')
    have hcd : ∀ j, w.cell? ⟨gd, j, none⟩ = w0.cell? ⟨gd, j, none⟩ := fun j => cell_same (hfx _ hgd)
    have yk := hkin.same (w' := w) (fun k hk' _ => hfx k hk')
    exact obE_res (w' := w.alloc (tmO plz zeroT)) (fun k => k = w.heap.size) (wanted_none rfl) (by unfold execOp; simp only []; go_simp; rfl) (Chg.of_below ((Below.refl _ _).alloc (Nat.le_refl _) _)) ⟨_, rfl, blk_new _ _, rfl⟩ (fun k hk => .inr ⟨by omega, by simp; omega⟩)
  · refine ⟨⟨fun τ => stableE_ex fun p v w w' O h hz hk => ⟨h.1, stableE_tmbox (fun k hk' => est2_fix (Nat.lt_of_lt_of_le hk' hB) (fun e => e.elim) (fun e => e.elim)) v w w' O h.2 hz hk⟩, fun τ τ' h => by have e : τ' 9 = τ 9 := h 8 _ 9 rfl rfl rfl; show (fun v w O => ∃ p, τ 9 = _ ∧ TmBox p _ _ w O) = (fun v w O => ∃ p, τ' 9 = _ ∧ TmBox p _ _ w O); rw [e]⟩, ?_⟩
    intro a w O hk
    have f9 := hk.fact 8 _ 9 rfl rfl rfl rfl
    have g9 := hk.owns 8 rfl rfl
    have f62 := hk.fact 7 _ 62 rfl rfl rfl rfl
    have g62 := hk.owns 7 rfl rfl
    have x4 := hk.world.still hx4 (fun ⟨_, h⟩ => h.elim And.right And.right)
    have x5 := hk.world.still hx5 (fun ⟨_, h⟩ => h.elim And.right And.right)
    have x8 := hk.world.still hx8 (fun ⟨_, h⟩ => h.elim And.right And.right)
    have hfx : ∀ k, k < B → w.heap[k]? = w0.heap[k]? := fun k hk' => hk.fix k ((fun k hk' => est2_fix (Nat.lt_of_lt_of_le hk' hB) (fun e => e.elim) (fun e => e.elim)) k hk')
    have hsz := hk.world.size
    have y4 := hin4.same (w' := w) (fun k hk' _ => hfx k hk')
    have y5 := hin5.same (w' := w) (fun k hk' _ => hfx k hk')
    have y8 := hin8.same (w' := w) (fun k hk' _ => hfx k hk')
    have hcd : ∀ j, w.cell? ⟨gd, j, none⟩ = w0.cell? ⟨gd, j, none⟩ := fun j => cell_same (hfx _ hgd)
    have yk := hkin.same (w' := w) (fun k hk' _ => hfx k hk')
    obtain ⟨p9, zp, xp, hOp⟩ := f9
    exact obE_tmPut (T := fun k => k < B) rfl (wanted_none rfl) zp xp f62 (.inl ⟨8, by simp [tp7_C], hOp⟩) (fun k h => .inl ⟨7, by simp [tp7_C], h⟩) (fun h => (g9 p9 hOp).2 ((fun k hk' => est2_fix (Nat.lt_of_lt_of_le hk' hB) (fun e => e.elim) (fun e => e.elim)) p9 h)) (hk.apart 8 7 rfl rfl rfl rfl (by decide) p9 hOp) zp
set_option maxRecDepth 100000 in
set_option maxHeartbeats 8000000 in
theorem tp7_region {Q : Exit → Act → World → Prop} {id : Nat} (w0 : World) (B : Nat) (gu : Nat) (pu : Pl) (tu : Tm) (gv : Nat) (pv : Pl) (tv : Tm) (gx : Nat) (px : Pl) (tx : Tm) (gd od : Nat) (pk : Pl) (tk : Tm) {s0 s1 s2 s3 s6 s7 s9 s10 s11 s12 s13 s14 s15 s16 s17 s18 s19 s20 s21 s22 s23 s24 s25 s26 s27 s28 s29 s30 s31 s32 s33 s34 s35 s36 s37 s38 s39 s40 s41 s42 s43 s44 s45 s46 s47 s48 s49 s50 s51 s52 s53 s54 s55 s56 s57 s58 s59 s60 s61 s62 s63 s64 s65 s66 s67 s68 : Value} (hB : B ≤ w0.heap.size) (hx4 : w0.heap[gu]? = some (tmO pu tu)) (hin4 : TmIn w0 B pu tu) (hx5 : w0.heap[gv]? = some (tmO pv tv)) (hin5 : TmIn w0 B pv tv) (hx8 : w0.heap[gx]? = some (tmO px tx)) (hin8 : TmIn w0 B px tx) (hxK : px.K = some ⟨gd, od, none⟩) (hxl : tx.kids.length = 2) (hxe : 2 ≤ px.e ∧ px.e ≤ 9223372036854775807) (hgd : gd < B) (cb0 : w0.cell? ⟨gd, od + 1 * 8, none⟩ = some (.int .i64 tk.kind)) (cb1 : w0.cell? ⟨gd, od + 1 * 8 + 1, none⟩ = some (.int .i64 tk.num)) (cb2 : w0.cell? ⟨gd, od + 1 * 8 + 2, none⟩ = some (.string tk.name)) (cb3 : w0.cell? ⟨gd, od + 1 * 8 + 3, none⟩ = some (.int .i64 tk.lv.kind)) (cb4 : w0.cell? ⟨gd, od + 1 * 8 + 4, none⟩ = some (.int .i64 tk.lv.num)) (cb5 : w0.cell? ⟨gd, od + 1 * 8 + 5, none⟩ = some (.slice pk.A tk.lv.kids.length pk.c)) (cb6 : w0.cell? ⟨gd, od + 1 * 8 + 6, none⟩ = some (.slice pk.B tk.ls.length pk.d)) (cb7 : w0.cell? ⟨gd, od + 1 * 8 + 7, none⟩ = some (.slice pk.K tk.kids.length pk.e)) (hkin : TmIn w0 B pk tk)
    (hend : ∀ (w' : World) (u9 : Value) (u61 : Value) (u62 : Value) (v9 : Value) (O9 : Nat → Prop), Chg (fun k => False ∨ False) w0 w' → (∃ p, u9 = .pointer (some ⟨p, 0, none⟩) ∧ TmBox p (fun k => k < B) (InstT tk (InstT tu tv)) w' O9) → (∀ k, O9 k → k < w'.heap.size ∧ ¬ Fix w0 (est2 0 0 (fun _ => False) (fun _ => False)) k) → Q .normal { tmps := (s0 :: s1 :: s2 :: s3 :: (.pointer (some ⟨gu, 0, none⟩)) :: (.pointer (some ⟨gv, 0, none⟩)) :: s6 :: s7 :: (.pointer (some ⟨gx, 0, none⟩)) :: u9 :: s10 :: s11 :: s12 :: s13 :: s14 :: s15 :: s16 :: s17 :: s18 :: s19 :: s20 :: s21 :: s22 :: s23 :: s24 :: s25 :: s26 :: s27 :: s28 :: s29 :: s30 :: s31 :: s32 :: s33 :: s34 :: s35 :: s36 :: s37 :: s38 :: s39 :: s40 :: s41 :: s42 :: s43 :: s44 :: s45 :: s46 :: s47 :: s48 :: s49 :: s50 :: s51 :: s52 :: s53 :: s54 :: (.pointer (some ⟨gx, 7, none⟩)) :: (.slice (some ⟨gd, od, none⟩) 2 px.e) :: (.pointer (some ⟨gd, od + 1 * 8, none⟩)) :: (tmV pk tk) :: (tmV pu tu) :: (tmV pv tv) :: u61 :: u62 :: s63 :: s64 :: s65 :: s66 :: s67 :: s68 :: [] : List Value).toArray, defers := [] } w') :
    (Code.region id tp7_ops.toArray true).wp Try.prog Q { tmps := (s0 :: s1 :: s2 :: s3 :: (.pointer (some ⟨gu, 0, none⟩)) :: (.pointer (some ⟨gv, 0, none⟩)) :: s6 :: s7 :: (.pointer (some ⟨gx, 0, none⟩)) :: s9 :: s10 :: s11 :: s12 :: s13 :: s14 :: s15 :: s16 :: s17 :: s18 :: s19 :: s20 :: s21 :: s22 :: s23 :: s24 :: s25 :: s26 :: s27 :: s28 :: s29 :: s30 :: s31 :: s32 :: s33 :: s34 :: s35 :: s36 :: s37 :: s38 :: s39 :: s40 :: s41 :: s42 :: s43 :: s44 :: s45 :: s46 :: s47 :: s48 :: s49 :: s50 :: s51 :: s52 :: s53 :: s54 :: s55 :: s56 :: s57 :: s58 :: s59 :: s60 :: s61 :: s62 :: s63 :: s64 :: s65 :: s66 :: s67 :: s68 :: [] : List Value).toArray, defers := [] } w0 := by
  refine wp_region_est (by kernel_rfl) (est2 0 0 (fun _ => False) (fun _ => False)) tp7_C (tp7_F w0 B gu pu tu gv pv tv gx px tx gd od pk tk) (est2_dis (fun _ h _ => h)) (est2_range (fun _ h => h.elim) (fun _ h => h.elim)) (by rfl) (by kernel_rfl) (tp7_obs w0.drew B gu pu tu gv pv tv gx px tx gd od pk tk hB hx4 (TmS.same hin4 (fun _ _ _ => rfl)) hx5 (TmS.same hin5 (fun _ _ _ => rfl)) hx8 (TmS.same hin8 (fun _ _ _ => rfl)) hxK hxl hxe hgd cb0 cb1 cb2 cb3 cb4 cb5 cb6 cb7 (TmS.same hkin (fun _ _ _ => rfl)) _ _ rfl rfl rfl) ?_
  intro a w' O hd hs hb hf hf2 ha hsame
  have hl := slots_eq (ops := tp7_ops.toArray) [(9, a.tmps.getD 9 undef), (55, .pointer (some ⟨gx, 7, none⟩)), (56, .slice (some ⟨gd, od, none⟩) 2 px.e), (57, .pointer (some ⟨gd, od + 1 * 8, none⟩)), (58, tmV pk tk), (59, tmV pu tu), (60, tmV pv tv), (61, a.tmps.getD 61 undef), (62, a.tmps.getD 62 undef)] (show a.tmps.size = 69 from hs) (fun i h => hsame i h) ⟨rfl, (hf 0 _ 55 rfl rfl (by decide)).1, (hf 1 _ 56 rfl rfl (by decide)).1, (hf 2 _ 57 rfl rfl (by decide)).1, (hf 3 _ 58 rfl rfl (by decide)).1, (hf 4 _ 59 rfl rfl (by decide)).1, (hf 5 _ 60 rfl rfl (by decide)).1, rfl, rfl, trivial⟩ (by kernel_rfl)
  obtain ⟨tmps, defers⟩ := a
  obtain rfl : defers = [] := hd
  have hl' : tmps = _ := hl
  rw [hl']
  obtain ⟨⟨v9, hv9⟩, ho9⟩ := hf2 9 _ rfl rfl (by decide)
  have hb' := est2_chg hb
  refine Eq.mp ?_ (hend w' (tmps.getD 9 undef) (tmps.getD 61 undef) (tmps.getD 62 undef) v9 (O 9) ⟨hb'.os, hb'.tape, hb'.output, hb'.size, hb'.block⟩ hv9 ho9)
  kernel_rfl

end Go.Proofs.Ytdboloabpjmgaaa
