/-
  Merged: LvsIn, TmIn.
-/
import Derived.Test.YtcgkeolgflphiaaMMany3
/-! LvsIn -/
namespace Go.Proofs.Ytcgkeolgflphiaa
open Go.RowKit Go.Proofs.YtcgkeolgflphiaaW.PrintWords Go.RegionInvYtcgkeolgflphiaa Go.ChangeShapes Go.WideShapes Go.Deep

set_option maxRecDepth 100000 in
theorem lvs_open {H : Type} {enc : TypeId × Value → H} {W : World} {base : Nat} {sp : Nat → Bool} {held : Bool} {fuel : Nat} {v2 : Value} {y2 : DataW H × List MemPlace} (g2 : DataW.trod enc Try.prog W base sp held fuel 22 [v2] = some y2) :
    ∃ (vs : List Lv) (A : Option Addr) (c : Nat), v2 = .slice A vs.length c ∧ LvS W (fun _ => True) A c (.mk 0 0 vs) := by
  rcases DataW.trod_slice Try.underlying22 g2 with ⟨e2, _⟩ | ⟨a, len, cap, elems, rest, n', hn', e2, _, _, hle, hm, hlen, hel, _, _⟩
  · obtain rfl : v2 = .slice none 0 0 := by simpa using e2
    exact ⟨[], none, 0, rfl, .mk (fun _ => none) (fun _ => 0) (by simp) (by omega) (fun i x hx => by simp at hx) (fun i x hx => by simp at hx)⟩
  · obtain rfl : v2 = .slice (some a) len cap := by simpa using e2
    have hc3 : Try.prog.cellsOf 24 = 3 := by kernel_rfl
    rw [hc3] at hel
    have each : ∀ i, i < len → ∃ q : Lv × Option Addr × Nat, W.cells? base (a.add (i * 3)) 3 = some [.int .i64 q.1.kind, .int .i64 q.1.num, .slice q.2.1 q.1.kids.length q.2.2] ∧ LvS W (fun _ => True) q.2.1 q.2.2 q.1 := by
      intro i hi
      have hq := hel i hi
      rw [List.getElem?_eq_getElem (by omega)] at hq
      obtain ⟨cs', h1, h2⟩ := Option.bind_eq_some_iff.1 hq
      obtain ⟨l, A, c, rfl, h3, _⟩ := lv_open n' n' (Nat.le_refl _) cs' _ h2
      exact ⟨(l, A, c), h1, h3⟩
    obtain ⟨q, hq⟩ := choose_lt each
    have hcell : ∀ i, i < len → ∀ j, j < 3 → W.cell? ((a.add (i * 3)).add j) = ([.int .i64 (q i).1.kind, .int .i64 (q i).1.num, .slice (q i).2.1 (q i).1.kids.length (q i).2.2] : List Value)[j]? := fun i hi j hj => (World.cells?_some (hq i hi).1).2.2 j hj
    have hget : ∀ (i : Nat) (x : Lv), ((List.range len).map fun i => (q i).1)[i]? = some x → i < len ∧ x = (q i).1 := by
      intro i x hx
      have hi : i < len := by
        rcases Nat.lt_or_ge i len with h | h
        · exact h
        · rw [List.getElem?_eq_none (by simpa using h)] at hx; cases hx
      rw [List.getElem?_map, List.getElem?_range hi] at hx
      exact ⟨hi, (Option.some.inj hx).symm⟩
    refine ⟨(List.range len).map fun i => (q i).1, some a, cap, by simp, .mk (fun i => (q i).2.1) (fun i => (q i).2.2) (by simpa using hle) (by simp only [maxLen] at hm; omega) (fun i x hx => ?_) (fun i x hx => ?_)⟩
    · obtain ⟨hi, rfl⟩ := hget i x hx
      have hsp : a.spot = none := by
        have h0 := hcell 0 (by omega) 0 (by omega)
        simp only [Nat.zero_mul, Addr.add, if_true] at h0
        cases hs : a.spot with
        | none => rfl
        | some z => simp [World.cell?, hs] at h0; split at h0 <;> simp at h0
      obtain ⟨b, o, z⟩ := a
      obtain rfl : z = none := hsp
      have c0 := hcell i hi 0 (by omega)
      have c1 := hcell i hi 1 (by omega)
      have c2 := hcell i hi 2 (by omega)
      simp only [add_flat] at c0 c1 c2
      exact ⟨_, rfl, trivial, rfl, by rw [add_flat]; exact c0, by rw [add_flat]; exact c1, by rw [add_flat]; exact c2⟩
    · obtain ⟨hi, rfl⟩ := hget i x hx
      exact (hq i hi).2
set_option maxRecDepth 100000 in
theorem lvs_in {H : Type} {enc : TypeId × Value → H} {W : World} {base : Nat} {sp : Nat → Bool} {held : Bool} {v : Value} {d : DataW H} {ps : List MemPlace} {r : Reach} {b0 : Nat} (hv : Value.okWide Try.prog W r b0 22 v) (h : DataW.Trod enc Try.prog W base sp held 22 v d ps) :
    ∃ (vs : List Lv) (A : Option Addr) (c n : Nat), v = .slice A n c ∧ n = vs.length ∧ LvS W (fun _ => True) A c (.mk 0 0 vs) := by
  obtain ⟨a, len, cap, rfl⟩ := okWide_slice Try.underlying22 hv
  obtain ⟨fuel, hf⟩ := h
  obtain ⟨vs, A, c, he, hl⟩ := lvs_open (v2 := .slice a len cap) hf
  exact ⟨vs, A, c, _, he, rfl, hl⟩
end Go.Proofs.Ytcgkeolgflphiaa

/-! TmIn -/
namespace Go.Proofs.Ytcgkeolgflphiaa
open Go.RowKit Go.Proofs.YtcgkeolgflphiaaW.PrintWords Go.RegionInvYtcgkeolgflphiaa Go.ChangeShapes Go.WideShapes Go.Deep

section
variable {H : Type} {enc : TypeId × Value → H} {W : World} {base : Nat} {sp : Nat → Bool} {held : Bool}
def Sized (t : TypeId) (d : DataW H) : Prop := (DataW.weights Try.prog t d).all (· ≤ reachBytes) = true
theorem all_at {t : TypeId} : ∀ {l : List (DataW H)}, (DataW.weightsAll Try.prog t l).all (· ≤ reachBytes) = true → ∀ (i : Nat) (d : DataW H), l[i]? = some d → Sized t d
  | [], _, i, d, h => by simp at h
  | x :: r, hw, i, d, h => by
    rw [DataW.weightsAll, List.all_append, Bool.and_eq_true] at hw
    cases i with
    | zero => simp at h; subst h; exact hw.1
    | succ j => exact all_at hw.2 j d (by simpa using h)
theorem each_at : ∀ {ts : List TypeId} {l : List (DataW H)}, (DataW.weightsEach Try.prog ts l).all (· ≤ reachBytes) = true → ∀ (i : Nat) (t : TypeId) (d : DataW H), ts[i]? = some t → l[i]? = some d → Sized t d
  | [], l, _, i, t, d, h, _ => by simp at h
  | _ :: _, [], _, i, t, d, _, h => by simp at h
  | s :: ts, x :: r, hw, i, t, d, ht, hd => by
    rw [DataW.weightsEach, List.all_append, Bool.and_eq_true] at hw
    cases i with
    | zero => simp at ht hd; subst ht; subst hd; exact hw.1
    | succ j => exact each_at hw.2 j t d (by simpa using ht) (by simpa using hd)
theorem sized_agg {t : TypeId} {fs : Array Field} {ps : List (DataW H)} (hu : Try.prog.underlying t = some (.struct fs)) (h : Sized t (.agg ps)) : ∀ (i : Nat) (f : Field) (d : DataW H), fs[i]? = some f → ps[i]? = some d → Sized f.type d := by
  unfold Sized at h
  rw [DataW.weights, hu] at h
  intro i f d hf hd
  exact each_at h i f.type d (by simp [hf]) hd
theorem sized_slices {t e : TypeId} {es rs : List (DataW H)} (hu : Try.prog.underlying t = some (.slice e)) (h : Sized t (.slice es rs)) : (es.length + rs.length) * Try.prog.bytesOf e ≤ 140737488351232 ∧ ∀ (i : Nat) (d : DataW H), es[i]? = some d → Sized e d := by
  unfold Sized at h
  rw [DataW.weights, hu] at h
  simp only [List.all_cons, List.all_append, Bool.and_eq_true, decide_eq_true_eq] at h
  exact ⟨h.1, fun i d hd => all_at h.2.1 i d hd⟩
theorem sized_str {t : TypeId} {s : List UInt8} (h : Sized (H := H) t (.lit (.string s))) : s.length ≤ 140737488351232 := by
  unfold Sized at h
  rw [DataW.weights] at h
  have h' : s.length ≤ reachBytes := by simpa using h
  exact h'
theorem lvs_len {fuel : Nat} {v : Value} {y : DataW H × List MemPlace} (g : DataW.trod enc Try.prog W base sp held fuel 22 [v] = some y) (hw : Sized 22 y.1) {A : Option Addr} {n c : Nat} (he : v = .slice A n c) : n * 40 ≤ 140737488355328 := by
  subst he
  rcases DataW.trod_slice Try.underlying22 g with ⟨e2, _⟩ | ⟨a, len, cap, elems, rest, n', hn', e2, hy, _, hle, hm, hlen, hel, _, _⟩
  · have : n = 0 := by simp at e2; exact e2.2.1
    omega
  · have : n = len := by simp at e2; exact e2.2.1
    subst this
    subst hy
    have h := (sized_slices Try.underlying22 hw).1
    rw [show Try.prog.bytesOf 24 = 40 by kernel_rfl] at h
    simp only [List.length_map] at h
    have := Nat.le_mul_of_pos_right elems.length (show 0 < 40 by decide)
    have h2 : n * 40 ≤ (elems.length + rest.length) * 40 := Nat.mul_le_mul_right _ (by omega)
    omega
theorem plain_addr {a : Addr} {v : Value} (h : W.cell? a = some v) : a.spot = none := by
  cases hs : a.spot with
  | none => rfl
  | some z => simp [World.cell?, hs] at h; split at h <;> simp at h
theorem int_range {n : Int} (h : (Lit.int .i64 n).wf = true) : -9223372036854775808 ≤ n ∧ n ≤ 9223372036854775807 := by simpa [Lit.wf, IntKind.min, IntKind.max, IntKind.signed, IntKind.bits] using h
set_option maxRecDepth 100000 in
set_option maxHeartbeats 4000000 in
theorem tm_open (F : Nat) : ∀ (fuel : Nat), fuel ≤ F → ∀ (cs : List Value) (x : DataW H × List MemPlace), DataW.trod enc Try.prog W base sp held fuel 27 cs = some x → Sized 27 x.1 →
    ∃ (t : Tm) (p : Pl), cs = tmC p t ∧ TmS W (fun _ => True) p t := by
  induction F with
  | zero =>
    intro fuel hF cs x h
    obtain ⟨xs, n, hn, _⟩ := DataW.trod_struct Try.underlying27 h
    omega
  | succ F ih =>
    intro fuel hF cs x h hw
    obtain ⟨xs, n, hn, hx, hl, hxl, hf⟩ := DataW.trod_struct Try.underlying27 h
    have hl8 : cs.length = 8 := by rw [hl]; kernel_rfl
    match xs, hxl, cs, hl8 with
    | [y0, y1, y2, y3, y4, y5], _, [v0, v1, v2, v3, v4, v5, v6, v7], _ =>
      subst hx
      have g0 : DataW.trod enc Try.prog W base sp held n 3 [v0] = some y0 := hf 0 _ rfl
      have g1 : DataW.trod enc Try.prog W base sp held n 3 [v1] = some y1 := hf 1 _ rfl
      have g2 : DataW.trod enc Try.prog W base sp held n 9 [v2] = some y2 := hf 2 _ rfl
      have g3 : DataW.trod enc Try.prog W base sp held n 24 [v3, v4, v5] = some y3 := hf 3 _ rfl
      have g4 : DataW.trod enc Try.prog W base sp held n 22 [v6] = some y4 := hf 4 _ rfl
      have g5 : DataW.trod enc Try.prog W base sp held n 25 [v7] = some y5 := hf 5 _ rfl
      have z2 : Sized 9 y2.1 := sized_agg Try.underlying27 hw 2 _ _ rfl rfl
      have z4 : Sized 22 y4.1 := sized_agg Try.underlying27 hw 4 _ _ rfl rfl
      have z5 : Sized 25 y5.1 := sized_agg Try.underlying27 hw 5 _ _ rfl rfl
      obtain ⟨k, e0, _, w0⟩ := DataW.trod_int Try.underlying3 g0
      obtain ⟨m, e1, _, w1⟩ := DataW.trod_int Try.underlying3 g1
      obtain ⟨s, e2, e2', _⟩ := DataW.trod_string Try.underlying9 g2
      obtain rfl : v0 = .int .i64 k := by simpa using e0
      obtain rfl : v1 = .int .i64 m := by simpa using e1
      obtain rfl : v2 = .string s := by simpa using e2
      have hs : s.size ≤ 140737488355328 := by
        rw [e2'] at z2
        have := sized_str z2
        simp at this
        have e : s.size = s.data.size := rfl
        omega
      obtain ⟨l, A, c, e3, hlv, _, _⟩ := lv_open n n (Nat.le_refl _) _ _ g3
      obtain ⟨ls, B, d, rfl, hls⟩ := lvs_open g4
      have hll := lvs_len g4 z4 rfl
      obtain ⟨rfl, rfl, rfl⟩ : v3 = .int .i64 l.kind ∧ v4 = .int .i64 l.num ∧ v5 = .slice A l.kids.length c := by simpa using e3
      have hfit : Fit m s ls := ⟨int_range w1, hs, hll⟩
      rcases DataW.trod_slice Try.underlying25 g5 with ⟨e5, _⟩ | ⟨a, len, cap, elems, rest, n', hn', e5, hy, _, hle, hm, hlen, hel, _, _⟩
      · obtain rfl : v7 = .slice none 0 0 := by simpa using e5
        exact ⟨.mk k m s l ls [], ⟨A, c, B, d, none, 0⟩, rfl, .mk (fun _ => default) hlv hls (by simp) (by simp) hfit (fun i x hx => by simp at hx) (fun i x hx => by simp at hx)⟩
      · obtain rfl : v7 = .slice (some a) len cap := by simpa using e5
        subst hy
        have hz := (sized_slices Try.underlying25 z5).2
        have hc8 : Try.prog.cellsOf 27 = 8 := by kernel_rfl
        rw [hc8] at hel
        have each : ∀ i, i < len → ∃ q : Tm × Pl, W.cells? base (a.add (i * 8)) 8 = some (tmC q.2 q.1) ∧ TmS W (fun _ => True) q.2 q.1 := by
          intro i hi
          have hq := hel i hi
          rw [List.getElem?_eq_getElem (by omega)] at hq
          obtain ⟨cs', h1, h2⟩ := Option.bind_eq_some_iff.1 hq
          obtain ⟨t, p, rfl, h3⟩ := ih n' (by omega) cs' _ h2 (hz i _ (by rw [List.getElem?_map, List.getElem?_eq_getElem (by omega)]; rfl))
          exact ⟨(t, p), h1, h3⟩
        obtain ⟨q, hq⟩ := choose_lt each
        have hcell : ∀ i, i < len → ∀ j, j < 8 → W.cell? ((a.add (i * 8)).add j) = (tmC (q i).2 (q i).1)[j]? := fun i hi j hj => (World.cells?_some (hq i hi).1).2.2 j hj
        have hget : ∀ (i : Nat) (x : Tm), ((List.range len).map fun i => (q i).1)[i]? = some x → i < len ∧ x = (q i).1 := by
          intro i x hx
          have hi : i < len := by
            rcases Nat.lt_or_ge i len with h | h
            · exact h
            · rw [List.getElem?_eq_none (by simpa using h)] at hx; cases hx
          rw [List.getElem?_map, List.getElem?_range hi] at hx
          exact ⟨hi, (Option.some.inj hx).symm⟩
        refine ⟨.mk k m s l ls ((List.range len).map fun i => (q i).1), ⟨A, c, B, d, some a, cap⟩, by simp [tmC, Tm.kind, Tm.num, Tm.name, Tm.lv, Tm.ls, Tm.kids], .mk (fun i => (q i).2) hlv hls (by simpa using hle) (by simp only [maxLen] at hm; exact hm) hfit (fun i x hx => ?_) (fun i x hx => ?_)⟩
        · obtain ⟨hi, rfl⟩ := hget i x hx
          have h0 := hcell 0 (by omega) 0 (by omega)
          simp only [Nat.zero_mul, Addr.add, if_true] at h0
          have hsp : a.spot = none := plain_addr (h0.trans (by rfl))
          obtain ⟨b, o, z⟩ := a
          obtain rfl : z = none := hsp
          refine ⟨b, o, rfl, trivial, fun j v hv => ?_⟩
          have hj : j < 8 := by
            rcases Nat.lt_or_ge j 8 with h | h
            · exact h
            · rw [List.getElem?_eq_none (by rw [tmC_len]; exact h)] at hv; cases hv
          have c0 := hcell i hi j hj
          simp only [add_flat] at c0
          rw [c0]
          exact hv
        · obtain ⟨hi, rfl⟩ := hget i x hx
          exact (hq i hi).2
set_option maxRecDepth 100000 in
theorem tm_in {v : Value} {d : DataW H} {ps : List MemPlace} {r : Reach} {b0 : Nat} (hv : Value.okWide Try.prog W r b0 27 v) (h : DataW.Trod enc Try.prog W base sp held 27 v d ps) (hw : Sized 27 d) :
    ∃ (t : Tm) (p : Pl), v = tmV p t ∧ TmS W (fun _ => True) p t := by
  obtain ⟨cs, rfl, hcs⟩ := okWide_struct Try.underlying27 hv
  obtain ⟨fuel, hf⟩ := h
  obtain ⟨t, p, he, ht⟩ := tm_open fuel fuel (Nat.le_refl _) _ _ hf hw
  refine ⟨t, p, ?_, ht⟩
  unfold tmV
  congr 1
  apply Array.toList_inj.1
  simpa [Value.cells, tmC] using he
set_option maxRecDepth 100000 in
set_option maxHeartbeats 4000000 in
theorem ct_open (fuel : Nat) (cs : List Value) (x : DataW H × List MemPlace) (h : DataW.trod enc Try.prog W base sp held fuel 63 cs = some x) (hw : Sized 63 x.1) :
    ∃ (c : Ct) (q : Pl), cs = ctC q c ∧ TmS W (fun _ => True) q c.ty ∧ c.nm.size ≤ 140737488355328 := by
  obtain ⟨xs, n, hn, hx, hl, hxl, hf⟩ := DataW.trod_struct Try.underlying63 h
  have hl9 : cs.length = 9 := by rw [hl]; kernel_rfl
  match xs, hxl, cs, hl9 with
  | [y0, y1], _, [v0, v1, v2, v3, v4, v5, v6, v7, v8], _ =>
    subst hx
    have g0 : DataW.trod enc Try.prog W base sp held n 9 [v0] = some y0 := hf 0 _ rfl
    have g1 : DataW.trod enc Try.prog W base sp held n 27 [v1, v2, v3, v4, v5, v6, v7, v8] = some y1 := hf 1 _ rfl
    have z0 : Sized 9 y0.1 := sized_agg Try.underlying63 hw 0 _ _ rfl rfl
    have z1 : Sized 27 y1.1 := sized_agg Try.underlying63 hw 1 _ _ rfl rfl
    obtain ⟨s, e2, e2', _⟩ := DataW.trod_string Try.underlying9 g0
    obtain rfl : v0 = .string s := by simpa using e2
    have hs : s.size ≤ 140737488355328 := by
      rw [e2'] at z0
      have := sized_str z0
      simp at this
      have e : s.size = s.data.size := rfl
      omega
    obtain ⟨t, p, he, ht⟩ := tm_open n n (Nat.le_refl _) _ _ g1 z1
    refine ⟨⟨s, t⟩, p, ?_, ht, hs⟩
    unfold tmC at he
    unfold ctC
    rw [he]
instance : Inhabited Ct := ⟨⟨ByteArray.empty, default⟩⟩
set_option maxRecDepth 100000 in
set_option maxHeartbeats 4000000 in
theorem cts_open {fuel : Nat} {v : Value} {y : DataW H × List MemPlace} (g : DataW.trod enc Try.prog W base sp held fuel 28 [v] = some y) (hw : Sized 28 y.1) :
    ∃ (ks : List Ct) (C : Option Addr) (e : Nat) (q : Nat → Pl), v = .slice C ks.length e ∧ (ks.length ≤ e ∧ e ≤ 9223372036854775807) ∧ ∀ (i : Nat) (c : Ct), ks[i]? = some c → CtAt W (fun _ => True) C i (q i) c ∧ TmS W (fun _ => True) (q i) c.ty ∧ c.nm.size ≤ 140737488355328 := by
  rcases DataW.trod_slice Try.underlying28 g with ⟨e5, _⟩ | ⟨a, len, cap, elems, rest, n', hn', e5, hy, _, hle, hm, hlen, hel, _, _⟩
  · obtain rfl : v = .slice none 0 0 := by simpa using e5
    exact ⟨[], none, 0, fun _ => default, rfl, by simp, fun i x hx => by simp at hx⟩
  · obtain rfl : v = .slice (some a) len cap := by simpa using e5
    subst hy
    have hz := (sized_slices Try.underlying28 hw).2
    have hc9 : Try.prog.cellsOf 63 = 9 := by kernel_rfl
    rw [hc9] at hel
    have each : ∀ i, i < len → ∃ q : Ct × Pl, W.cells? base (a.add (i * 9)) 9 = some (ctC q.2 q.1) ∧ TmS W (fun _ => True) q.2 q.1.ty ∧ q.1.nm.size ≤ 140737488355328 := by
      intro i hi
      have hq := hel i hi
      rw [List.getElem?_eq_getElem (by omega)] at hq
      obtain ⟨cs', h1, h2⟩ := Option.bind_eq_some_iff.1 hq
      obtain ⟨t, p, rfl, h3⟩ := ct_open n' cs' _ h2 (hz i _ (by rw [List.getElem?_map, List.getElem?_eq_getElem (by omega)]; rfl))
      exact ⟨(t, p), h1, h3⟩
    obtain ⟨q, hq⟩ := choose_lt each
    have hcell : ∀ i, i < len → ∀ j, j < 9 → W.cell? ((a.add (i * 9)).add j) = (ctC (q i).2 (q i).1)[j]? := fun i hi j hj => (World.cells?_some (hq i hi).1).2.2 j hj
    refine ⟨(List.range len).map fun i => (q i).1, some a, cap, fun i => (q i).2, by simp, ⟨by simpa using hle, by simp only [maxLen] at hm; exact hm⟩, fun i x hx => ?_⟩
    have hi : i < len := by
      rcases Nat.lt_or_ge i len with h | h
      · exact h
      · rw [List.getElem?_eq_none (by simpa using h)] at hx; cases hx
    rw [List.getElem?_map, List.getElem?_range hi] at hx
    obtain rfl : (q i).1 = x := Option.some.inj hx
    refine ⟨?_, (hq i hi).2⟩
    have h0 := hcell 0 (by omega) 0 (by omega)
    simp only [Nat.zero_mul, Addr.add, if_true] at h0
    have hsp : a.spot = none := plain_addr (h0.trans (by rfl))
    obtain ⟨b, o, z⟩ := a
    obtain rfl : z = none := hsp
    refine ⟨b, o, rfl, trivial, fun j v hv => ?_⟩
    have hj : j < 9 := by
      rcases Nat.lt_or_ge j 9 with h | h
      · exact h
      · rw [List.getElem?_eq_none (by exact h)] at hv; cases hv
    have c0 := hcell i hi j hj
    simp only [add_flat] at c0
    rw [c0]
    exact hv
set_option maxRecDepth 100000 in
set_option maxHeartbeats 8000000 in
theorem dc_open (fuel : Nat) (cs : List Value) (x : DataW H × List MemPlace) (h : DataW.trod enc Try.prog W base sp held fuel 30 cs = some x) (hw : Sized 30 x.1) :
    ∃ (d : Dc) (P : DPl), cs = dcC P d ∧ DcS W (fun _ => True) P d ∧ (Lit.int .i64 d.vars).wf = true := by
  obtain ⟨xs, n, hn, hx, hl, hxl, hf⟩ := DataW.trod_struct Try.underlying30 h
  have hl21 : cs.length = 21 := by rw [hl]; kernel_rfl
  match xs, hxl, cs, hl21 with
  | [y0, y1, y2, y3, y4, y5, y6], _, [v0, v1, v2, v3, v4, v5, v6, v7, v8, v9, v10, v11, v12, v13, v14, v15, v16, v17, v18, v19, v20], _ =>
    subst hx
    have g0 : DataW.trod enc Try.prog W base sp held n 3 [v0] = some y0 := hf 0 _ rfl
    have g1 : DataW.trod enc Try.prog W base sp held n 9 [v1] = some y1 := hf 1 _ rfl
    have g2 : DataW.trod enc Try.prog W base sp held n 3 [v2] = some y2 := hf 2 _ rfl
    have g3 : DataW.trod enc Try.prog W base sp held n 27 [v3, v4, v5, v6, v7, v8, v9, v10] = some y3 := hf 3 _ rfl
    have g4 : DataW.trod enc Try.prog W base sp held n 27 [v11, v12, v13, v14, v15, v16, v17, v18] = some y4 := hf 4 _ rfl
    have g5 : DataW.trod enc Try.prog W base sp held n 3 [v19] = some y5 := hf 5 _ rfl
    have g6 : DataW.trod enc Try.prog W base sp held n 28 [v20] = some y6 := hf 6 _ rfl
    have z1 : Sized 9 y1.1 := sized_agg Try.underlying30 hw 1 _ _ rfl rfl
    have z3 : Sized 27 y3.1 := sized_agg Try.underlying30 hw 3 _ _ rfl rfl
    have z4 : Sized 27 y4.1 := sized_agg Try.underlying30 hw 4 _ _ rfl rfl
    have z6 : Sized 28 y6.1 := sized_agg Try.underlying30 hw 6 _ _ rfl rfl
    obtain ⟨k, e0, _, w0⟩ := DataW.trod_int Try.underlying3 g0
    obtain ⟨s, e2, e2', _⟩ := DataW.trod_string Try.underlying9 g1
    obtain ⟨vs, e1, _, w1⟩ := DataW.trod_int Try.underlying3 g2
    obtain ⟨ps, e5, _, w5⟩ := DataW.trod_int Try.underlying3 g5
    obtain rfl : v0 = .int .i64 k := by simpa using e0
    obtain rfl : v1 = .string s := by simpa using e2
    obtain rfl : v2 = .int .i64 vs := by simpa using e1
    obtain rfl : v19 = .int .i64 ps := by simpa using e5
    have hs : s.size ≤ 140737488355328 := by
      rw [e2'] at z1
      have := sized_str z1
      simp at this
      have e : s.size = s.data.size := rfl
      omega
    obtain ⟨t, p, he, ht⟩ := tm_open n n (Nat.le_refl _) _ _ g3 z3
    obtain ⟨t2, p2, he2, ht2⟩ := tm_open n n (Nat.le_refl _) _ _ g4 z4
    obtain ⟨ks, C, e, q, rfl, hlen, hct⟩ := cts_open g6 z6
    refine ⟨⟨k, s, vs, t, t2, ps, ks⟩, ⟨p, p2, C, e, q⟩, ?_, ⟨ht, ht2, hlen, hs, hct⟩, w1⟩
    unfold dcC
    rw [← he, ← he2]
    rfl
set_option maxRecDepth 100000 in
theorem dc_in {v : Value} {d : DataW H} {ps : List MemPlace} {r : Reach} {b0 : Nat} (hv : Value.okWide Try.prog W r b0 30 v) (h : DataW.Trod enc Try.prog W base sp held 30 v d ps) (hw : Sized 30 d) :
    ∃ (d : Dc) (P : DPl), v = dcV P d ∧ DcS W (fun _ => True) P d := by
  obtain ⟨cs, rfl, hcs⟩ := okWide_struct Try.underlying30 hv
  obtain ⟨fuel, hf⟩ := h
  obtain ⟨t, p, he, ht, _⟩ := dc_open fuel _ _ hf hw
  refine ⟨t, p, ?_, ht⟩
  unfold dcV
  congr 1
  apply Array.toList_inj.1
  simpa [Value.cells, dcC, tmC] using he
end
end Go.Proofs.Ytcgkeolgflphiaa
