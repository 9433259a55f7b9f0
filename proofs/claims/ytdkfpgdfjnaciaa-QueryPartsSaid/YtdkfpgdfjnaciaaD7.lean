/- When an atom matches a fact; what variables stand for. -/
import Derived.Test.YtdkfpgdfjnaciaaD6
import Derived.Test.YtdkfpgdfjnaciaaSD
set_option linter.unusedVariables false
set_option linter.unusedSimpArgs false
namespace Go.Proofs.Ytdkfpgdfjnaciaa.SL
/-- What a term is, its variable standing for a symbol. -/
def tv (s : Int → Int) (t : Tm) : Int := if t.v then s t.n else t.n
def ap (s : Int → Int) (a : Am) : Fa := ⟨a.p, a.a.map (tv s)⟩
def Mt (a : Am) (f : Fa) : Prop := ∃ s, f = ap s a
noncomputable instance (a : Am) (f : Fa) : Decidable (Mt a f) := Classical.propDecidable _
noncomputable def mtch (a : Am) (f : Fa) : Bool := decide (Mt a f)
theorem Mt.pred {a : Am} {f : Fa} (h : Mt a f) : a.p = f.p ∧ a.a.length = f.a.length := by obtain ⟨s, rfl⟩ := h; simp [ap]
/-- So many places fit. -/
def fits (s : Int → Int) (a : List Tm) (f : List Int) (i : Nat) : Prop := ∀ k t n, k < i → a[k]? = some t → f[k]? = some n → tv s t = n
theorem fits_zero (s : Int → Int) (a : List Tm) (f : List Int) : fits s a f 0 := fun k t n h => by omega
theorem fits_next {s : Int → Int} {a : List Tm} {f : List Int} {i : Nat} (h1 : i < a.length) (h2 : i < f.length) : fits s a f (i + 1) ↔ fits s a f i ∧ tv s a[i] = f[i] := by
  constructor
  · intro h
    exact ⟨fun k t n hk => h k t n (by omega), h i _ _ (by omega) (List.getElem?_eq_getElem h1) (List.getElem?_eq_getElem h2)⟩
  · rintro ⟨h, g⟩ k t n hk ha hf
    rcases Nat.lt_or_ge k i with q | q
    · exact h k t n q ha hf
    · obtain rfl : k = i := by omega
      rw [List.getElem?_eq_getElem h1] at ha
      rw [List.getElem?_eq_getElem h2] at hf
      cases ha; cases hf; exact g
theorem Mt_of_fits {a : Am} {f : Fa} {s : Int → Int} (hp : a.p = f.p) (hl : a.a.length = f.a.length) (h : fits s a.a f.a a.a.length) : Mt a f := by
  refine ⟨s, ?_⟩
  obtain ⟨p, l⟩ := f
  simp only at hp hl h
  unfold ap
  rw [hp]
  congr 1
  apply List.ext_getElem?
  intro k
  rcases Nat.lt_or_ge k a.a.length with q | q
  · rw [List.getElem?_map, List.getElem?_eq_getElem q, List.getElem?_eq_getElem (by omega)]
    simp only [Option.map_some, Option.some.injEq]
    exact (h k _ _ q (List.getElem?_eq_getElem q) (List.getElem?_eq_getElem (by omega))).symm
  · rw [List.getElem?_eq_none (by omega), List.getElem?_eq_none (by simpa using q)]
theorem fits_of_Mt {a : Am} {s : Int → Int} (i : Nat) : fits s a.a (ap s a).a i := fun k t n hk ha hf => by
  simp only [ap, List.getElem?_map, ha, Option.map_some, Option.some.injEq] at hf
  exact hf
theorem mtch_no {a : Am} {f : Fa} (h : a.p = f.p → a.a.length = f.a.length → False) : mtch a f = false := by
  unfold mtch
  rw [decide_eq_false_iff_not]
  intro c; exact h c.pred.1 c.pred.2
/-- What is held agrees. -/
def agrees (σ : Int → Option Int) (s : Int → Int) : Prop := ∀ n m, 0 ≤ n → σ n = some m → s n = m
def upd (σ : Int → Option Int) (n m : Int) : Int → Option Int := fun k => if k = n then some m else σ k
def inv (σ : Int → Option Int) (a : List Tm) (f : List Int) (i : Nat) : Prop := ∀ s, fits s a f i ↔ agrees σ s
theorem inv_zero (a : List Tm) (f : List Int) : inv (fun _ => none) a f 0 := fun s => ⟨fun _ n m _ h => (by cases h), fun _ => fits_zero s a f⟩
theorem inv_sym {σ : Int → Option Int} {a : List Tm} {f : List Int} {i : Nat} (h : inv σ a f i) (h1 : i < a.length) (h2 : i < f.length) (hv : a[i].v = false) (hn : a[i].n = f[i]) : inv σ a f (i + 1) := fun s => by
  rw [fits_next h1 h2, h s]
  simp [tv, hv, hn]
theorem inv_var {σ : Int → Option Int} {a : List Tm} {f : List Int} {i : Nat} (h : inv σ a f i) (h1 : i < a.length) (h2 : i < f.length) (hv : a[i].v = true) (h0 : 0 ≤ a[i].n) (hn : σ a[i].n = none ∨ σ a[i].n = some f[i]) : inv (upd σ a[i].n f[i]) a f (i + 1) := fun s => by
  rw [fits_next h1 h2, h s]
  simp only [tv, hv, if_true]
  constructor
  · rintro ⟨g1, g2⟩ n m hn0 e
    unfold upd at e
    split at e
    · rename_i q; cases e; rw [q]; exact g2
    · exact g1 n m hn0 e
  · intro g
    refine ⟨fun n m hn0 e => ?_, g _ _ h0 (by simp [upd])⟩
    by_cases q : n = a[i].n
    · subst q
      rcases hn with hn | hn
      · rw [hn] at e; cases e
      · rw [hn] at e; cases e
        exact g _ _ h0 (by simp [upd])
    · exact g n m hn0 (by simp [upd, q, e])
theorem mtch_sym_no {a : Am} {f : Fa} {i : Nat} (h1 : i < a.a.length) (h2 : i < f.a.length) (hv : a.a[i].v = false) (hn : ¬ a.a[i].n = f.a[i]) : mtch a f = false := by
  unfold mtch
  rw [decide_eq_false_iff_not]
  rintro ⟨s, rfl⟩
  have := fits_of_Mt (a := a) (s := s) (i + 1) i _ _ (by omega) (List.getElem?_eq_getElem h1) (List.getElem?_eq_getElem h2)
  simp only [tv, hv] at this
  exact hn (by simpa using this)
theorem mtch_var_no {σ : Int → Option Int} {a : Am} {f : Fa} {i : Nat} (h : inv σ a.a f.a i) (h1 : i < a.a.length) (h2 : i < f.a.length) (hv : a.a[i].v = true) (h0 : 0 ≤ a.a[i].n) (hn : ¬ (σ a.a[i].n = none ∨ σ a.a[i].n = some f.a[i])) : mtch a f = false := by
  unfold mtch
  rw [decide_eq_false_iff_not]
  rintro ⟨s, rfl⟩
  have g := fits_of_Mt (a := a) (s := s) (i + 1) i _ _ (by omega) (List.getElem?_eq_getElem h1) (List.getElem?_eq_getElem h2)
  have g2 := (h s).1 (fits_of_Mt i)
  simp only [tv, hv, if_true] at g
  cases e : σ a.a[i].n with
  | none => exact hn (.inl e)
  | some m =>
    have := g2 _ _ h0 e
    refine hn (.inr ?_)
    rw [e, ← g, this]
theorem mtch_yes {σ : Int → Option Int} {a : Am} {f : Fa} (hp : a.p = f.p) (hl : a.a.length = f.a.length) (h : inv σ a.a f.a a.a.length) : mtch a f = true := by
  unfold mtch
  rw [decide_eq_true_iff]
  exact Mt_of_fits hp hl ((h fun n => (σ n).getD 0).2 fun n m _ e => by simp [e])
/-! ### what is held, in lists -/
def sig (few : List Int) (is : List Bool) (many : List Tm) (by_ : List Int) (n : Int) : Option Int :=
  if n < 16 then (if is[n.toNat]? = some true then few[n.toNat]? else none) else (many.findIdx? (· = ⟨true, n⟩)).bind (by_[·]?)
structure HeldOk (few : List Int) (is : List Bool) (many : List Tm) (by_ : List Int) (σ : Int → Option Int) (m : Nat) : Prop where
  l1 : few.length = 16
  l2 : is.length = 16
  l3 : many.length = by_.length
  l4 : many.length ≤ m
  so : ∀ n, 0 ≤ n → sig few is many by_ n = σ n
theorem held_small {few : List Int} {is : List Bool} {many : List Tm} {by_ : List Int} {σ : Int → Option Int} {m : Nat} (h : HeldOk few is many by_ σ m) {n : Nat} (hn : n < 16) (x : Int) :
    HeldOk (few.set n x) (is.set n true) many by_ (upd σ n x) m := by
  refine ⟨by simp [h.l1], by simp [h.l2], h.l3, h.l4, fun k hk => ?_⟩
  unfold sig upd
  have h1 := h.l1
  have h2 := h.l2
  by_cases e : k = n
  · subst e
    simp [show ((n : Int) < 16) by omega, h1, h2, hn]
  · have hs := h.so k hk
    unfold sig at hs
    rw [if_neg e, ← hs]
    by_cases hk16 : k < 16
    · rw [if_pos hk16, if_pos hk16, List.getElem?_set_ne (by omega), List.getElem?_set_ne (by omega)]
    · rw [if_neg hk16, if_neg hk16]
theorem findIdx_app {l : List Tm} {x y : Tm} : (l ++ [y]).findIdx? (· = x) = match l.findIdx? (· = x) with | some j => some j | none => if y = x then some l.length else none := by
  rw [List.findIdx?_append]
  cases e : l.findIdx? (· = x) with
  | some j => simp
  | none =>
    by_cases q : y = x
    · simp [q, List.findIdx?_cons]
    · simp [q, List.findIdx?_cons]
theorem findIdx_lt {l : List Tm} {x : Tm} {j : Nat} (h : l.findIdx? (· = x) = some j) : j < l.length := by
  rw [List.findIdx?_eq_some_iff_getElem] at h
  exact h.1
theorem held_new {few : List Int} {is : List Bool} {many : List Tm} {by_ : List Int} {σ : Int → Option Int} {m : Nat} (h : HeldOk few is many by_ σ m) {n : Int} (hn : ¬ n < 16) (hf : many.findIdx? (· = ⟨true, n⟩) = none) (x : Int) :
    HeldOk few is (many ++ [⟨true, n⟩]) (by_ ++ [x]) (upd σ n x) (m + 1) := by
  refine ⟨h.l1, h.l2, by simp [h.l3], by have := h.l4; simp; omega, fun k hk => ?_⟩
  have hs := h.so k hk
  unfold sig at hs ⊢
  unfold upd
  by_cases hk16 : k < 16
  · rw [if_pos hk16] at hs ⊢
    rw [if_neg (show ¬ k = n by omega), ← hs]
  · rw [if_neg hk16] at hs ⊢
    rw [findIdx_app]
    by_cases e : k = n
    · subst e
      rw [hf, if_pos rfl]
      simp [h.l3]
    · rw [if_neg e, ← hs]
      cases e2 : many.findIdx? (· = ⟨true, k⟩) with
      | none =>
        have : ¬ (⟨true, n⟩ : Tm) = ⟨true, k⟩ := fun q => e (by cases q; rfl)
        simp [this]
      | some j =>
        have := findIdx_lt e2
        have h3 := h.l3
        simp only [Option.bind_some]
        rw [List.getElem?_append_left (by omega)]
/-- What the first one of some is that is like a term. -/
def idxT (l : List Tm) (x : Tm) : Int := match l.findIdx? (· = x) with | some j => (j : Int) | none => -1
theorem idxT_hit {l : List Tm} {x : Tm} {k : Nat} (hk : k < l.length) (hz : ∀ y ∈ l.take k, ¬ y = x) (e : l[k] = x) : l.findIdx? (· = x) = some k := by
  rw [List.findIdx?_eq_some_iff_getElem]
  refine ⟨hk, by simpa using e, fun j hj => ?_⟩
  have := hz l[j] (List.mem_take_iff_getElem.2 ⟨j, by omega, rfl⟩)
  simpa using this
theorem idxT_none {l : List Tm} {x : Tm} (hz : ∀ y ∈ l, ¬ y = x) : l.findIdx? (· = x) = none := by
  rw [List.findIdx?_eq_none_iff]
  intro y hy; simpa using hz y hy
theorem mem_take_next' {α : Type} {l : List α} {k : Nat} (hk : k < l.length) {P : α → Prop} (h : ∀ y ∈ l.take k, P y) (g : P l[k]) : ∀ y ∈ l.take (k + 1), P y := by
  rw [List.take_succ_eq_append_getElem hk]
  intro y hy
  rcases List.mem_append.1 hy with hy | hy
  · exact h y hy
  · simp at hy; subst hy; exact g
/-! ### pairs of places -/
/-- The reference's words. -/
def pairs (a : List Tm) (f : List Int) (i : Nat) : Prop := ∀ k t n, k < i → a[k]? = some t → f[k]? = some n → (t.v = false → t.n = n) ∧ ∀ j m, j < k → a[j]? = some t → f[j]? = some m → t.v = true → m = n
theorem mtch_pairs {a : Am} {f : Fa} (hp : a.p = f.p) (hl : a.a.length = f.a.length) (h : pairs a.a f.a a.a.length) : mtch a f = true := by
  unfold mtch
  rw [decide_eq_true_iff]
  let s : Int → Int := fun x => match a.a.findIdx? (· = ⟨true, x⟩) with
    | some j => f.a.getD j 0
    | none => 0
  refine Mt_of_fits (s := s) hp hl fun k t n hk ha hf => ?_
  obtain ⟨g1, g2⟩ := h k t n hk ha hf
  unfold tv
  cases hv : t.v with
  | false => simpa using g1 hv
  | true =>
    simp only [if_true]
    have ht : t = ⟨true, t.n⟩ := by cases t; simp_all
    cases e : a.a.findIdx? (· = (⟨true, t.n⟩ : Tm)) with
    | none =>
      rw [List.findIdx?_eq_none_iff] at e
      have := e t (List.mem_of_getElem? ha)
      simp [← ht] at this
    | some j =>
      show (match a.a.findIdx? (· = (⟨true, t.n⟩ : Tm)) with | some j => f.a.getD j 0 | none => 0) = n
      rw [e]
      rw [List.findIdx?_eq_some_iff_getElem] at e
      obtain ⟨hj, e1, e2⟩ := e
      have e1' : a.a[j] = t := by rw [ht]; simpa using e1
      rcases Nat.lt_trichotomy j k with q | q | q
      · show f.a.getD j 0 = n
        rw [List.getD_eq_getElem?_getD, List.getElem?_eq_getElem (by omega)]
        exact g2 j _ q (by rw [List.getElem?_eq_getElem hj, e1']) (List.getElem?_eq_getElem (by omega)) hv
      · subst q
        show f.a.getD j 0 = n
        simp [hf]
      · have := e2 k q
        rw [List.getElem?_eq_getElem (by omega)] at ha
        have ha' : a.a[k] = t := by simpa using ha
        rw [ha', ← ht] at this
        simp at this
theorem pairs_of {a : Am} {f : Fa} (h : mtch a f = true) (i : Nat) : pairs a.a f.a i := by
  unfold mtch at h
  rw [decide_eq_true_iff] at h
  obtain ⟨s, rfl⟩ := h
  intro k t n hk ha hf
  have h1 := fits_of_Mt (a := a) (s := s) (k + 1) k t n (by omega) ha hf
  refine ⟨fun hv => by simpa [tv, hv] using h1, fun j m hj ha2 hf2 hv => ?_⟩
  have h2 := fits_of_Mt (a := a) (s := s) (j + 1) j t m (by omega) ha2 hf2
  rw [← h1, ← h2]
/-! ### the cells -/
def hc (few : List Int) (is : List Bool) (tail : List Value) : List Value := few.map (Value.int .u32) ++ (is.map Value.bool ++ tail)
theorem hc_few {few : List Int} {is : List Bool} {tail : List Value} {j oo : Nat} (hj : j < few.length) (ho : oo = j) : (hc few is tail)[oo]? = some (.int .u32 few[j]) := by
  subst ho
  unfold hc
  rw [List.getElem?_append_left (by simpa using hj)]
  simp [hj]
theorem hc_is {few : List Int} {is : List Bool} {tail : List Value} {j oo : Nat} (hj : j < is.length) (ho : oo = few.length + j) : (hc few is tail)[oo]? = some (.bool is[j]) := by
  subst ho
  unfold hc
  rw [List.getElem?_append_right (by simp), List.getElem?_append_left (by simpa using hj)]
  simp [hj]
theorem hc_tail {few : List Int} {is : List Bool} {tail : List Value} {j oo : Nat} {v : Value} (hj : tail[j]? = some v) (ho : oo = few.length + (is.length + j)) : (hc few is tail)[oo]? = some v := by
  subst ho
  unfold hc
  rw [List.getElem?_append_right (by simp), List.getElem?_append_right (by simp)]
  simp [hj]
theorem putS_one {l : List Value} {n : Nat} {v : Value} (h : n < l.length) : putS n [v] l = l.set n v := by
  unfold putS
  rw [List.set_eq_take_append_cons_drop]
  simp [h]
theorem hc_put_few {few : List Int} {is : List Bool} {tail : List Value} {j oo : Nat} {x : Int} (hj : j < few.length) (ho : oo = j) : putL oo [.int .u32 x] (hc few is tail) = some (hc (few.set j x) is tail) := by
  subst ho
  have hl : (hc few is tail).length = few.length + (is.length + tail.length) := by simp [hc]
  rw [putL_put _ _ _ (by rw [hl]; simp; omega), putS_one (by rw [hl]; omega)]
  unfold hc
  rw [List.set_append_left _ _ (by simpa using hj), List.map_set]
theorem hc_put_is {few : List Int} {is : List Bool} {tail : List Value} {j oo : Nat} {x : Bool} (hj : j < is.length) (ho : oo = few.length + j) : putL oo [.bool x] (hc few is tail) = some (hc few (is.set j x) tail) := by
  subst ho
  have hl : (hc few is tail).length = few.length + (is.length + tail.length) := by simp [hc]
  rw [putL_put _ _ _ (by rw [hl]; simp; omega), putS_one (by rw [hl]; omega)]
  unfold hc
  rw [List.set_append_right _ _ (by simp), List.set_append_left _ _ (by simpa using hj), List.map_set]
  simp
theorem hc_put_tail {few : List Int} {is : List Bool} {tail : List Value} {j oo : Nat} {v : Value} (hj : j < tail.length) (ho : oo = few.length + (is.length + j)) : putL oo [v] (hc few is tail) = some (hc few is (tail.set j v)) := by
  subst ho
  have hl : (hc few is tail).length = few.length + (is.length + tail.length) := by simp [hc]
  rw [putL_put _ _ _ (by rw [hl]; simp; omega), putS_one (by rw [hl]; omega)]
  unfold hc
  rw [List.set_append_right _ _ (by simp), List.set_append_right _ _ (by simp)]
  simp
theorem tm_eq (x y : Tm) : (x.v == y.v && (decide (x.n = y.n) && true)) = decide (y = x) := by
  obtain ⟨a, b⟩ := x
  obtain ⟨c, d⟩ := y
  by_cases h1 : a = c
  · by_cases h2 : b = d
    · simp [h1, h2]
    · simp [h1, h2, Ne.symm h2, eq_comm]
  · simp [h1, Ne.symm h1]
theorem st_new {few : List Int} {is : List Bool} {σ : Int → Option Int} {j : Nat} {n : Int} (hj : j < 16) (f1 : few.length = 16) (f2 : is.length = 16) (f3 : (if is[j]? = some true then few[j]? else none) = σ j) (g : is[j] = false) :
    decide (σ (j : Int) = none ∨ σ (j : Int) = some n) = true := by
  rw [← f3, List.getElem?_eq_getElem (by omega), g]; simp
theorem st_old {few : List Int} {is : List Bool} {σ : Int → Option Int} {j : Nat} {n : Int} (hj : j < 16) (f1 : few.length = 16) (f2 : is.length = 16) (f3 : (if is[j]? = some true then few[j]? else none) = σ j) (g : is[j] = true) :
    decide (σ (j : Int) = none ∨ σ (j : Int) = some n) = decide (few[j] = n) := by
  rw [← f3, List.getElem?_eq_getElem (by omega), g, List.getElem?_eq_getElem (by omega)]; simp
theorem sig_big {few : List Int} {is : List Bool} {many : List Tm} {by_ : List Int} {σ : Int → Option Int} {m : Nat} (h : HeldOk few is many by_ σ m) {x : Int} (hx : 16 ≤ x) : (many.findIdx? (· = ⟨true, x⟩)).bind (by_[·]?) = σ x := by
  have := h.so x (by omega)
  rwa [sig, if_neg (by omega)] at this
theorem upd_same {σ : Int → Option Int} {x n : Int} (h : σ x = some n) : σ = upd σ x n := by
  funext k
  unfold upd
  split
  · rename_i e; rw [e, h]
  · rfl
theorem idx_yes {l : List Tm} {x : Tm} (h : 0 ≤ idxT l x) : ∃ k, l.findIdx? (· = x) = some k ∧ idxT l x = k ∧ k < l.length := by
  unfold idxT at h ⊢
  cases e : l.findIdx? (· = x) with
  | none => rw [e] at h; simp at h
  | some k => exact ⟨k, rfl, rfl, findIdx_lt e⟩
theorem idx_no {l : List Tm} {x : Tm} (h : ¬ 0 ≤ idxT l x) : l.findIdx? (· = x) = none := by
  unfold idxT at h
  cases e : l.findIdx? (· = x) with
  | none => rfl
  | some k => rw [e] at h; simp at h
theorem hc_put_a {few : List Int} {is : List Bool} {u v x : Value} {oo : Nat} (ho : oo = few.length + (is.length + 0)) : putL oo [x] (hc few is [u, v]) = some (hc few is [x, v]) := hc_put_tail (j := 0) (by simp) ho
theorem hc_put_b {few : List Int} {is : List Bool} {u v x : Value} {oo : Nat} (ho : oo = few.length + (is.length + 1)) : putL oo [x] (hc few is [u, v]) = some (hc few is [u, x]) := hc_put_tail (j := 1) (by simp) ho
theorem held_zero : HeldOk (List.replicate 16 0) (List.replicate 16 false) [] [] (fun _ => none) 0 := ⟨rfl, rfl, rfl, by simp, fun n hn => by
  unfold sig
  split
  · rw [List.getElem?_replicate]; split <;> simp
  · rfl⟩
theorem mtch_pair_no {a : Am} {f : Fa} {i j : Nat} (hj : j < i) (h1 : i < a.a.length) (h2 : i < f.a.length) (hv : a.a[i].v = true) (he : a.a[i] = a.a[j]) (hn : ¬ f.a[j] = f.a[i]) : mtch a f = false := by
  cases e : mtch a f with
  | false => rfl
  | true =>
    have := (pairs_of e (i + 1) i _ _ (by omega) (List.getElem?_eq_getElem h1) (List.getElem?_eq_getElem h2)).2 j f.a[j] hj (by rw [List.getElem?_eq_getElem (by omega), he]) (List.getElem?_eq_getElem (by omega)) hv
    exact absurd this hn
theorem pairs_next {a : List Tm} {f : List Int} {i : Nat} (h : pairs a f i) (h1 : i < a.length) (h2 : i < f.length) (g1 : a[i].v = false → a[i].n = f[i]) (g2 : ∀ j (hj : j < i), a[i].v = true → a[i] = a[j] → f[j] = f[i]) : pairs a f (i + 1) := by
  intro k t n hk ha hf
  rcases Nat.lt_or_ge k i with q | q
  · exact h k t n q ha hf
  · obtain rfl : k = i := by omega
    rw [List.getElem?_eq_getElem h1] at ha
    rw [List.getElem?_eq_getElem h2] at hf
    cases ha; cases hf
    refine ⟨g1, fun j m hj ha2 hf2 hv => ?_⟩
    rw [List.getElem?_eq_getElem (by omega)] at ha2 hf2
    simp only [Option.some.injEq] at ha2 hf2
    rw [← hf2]
    exact g2 j hj hv ha2.symm
/-! ### parts of lists -/
theorem filter_yes {α : Type} {p : α → Bool} {l : List α} {k : Nat} (hk : k < l.length) (h : p l[k] = true) : (l.take (k + 1)).filter p = (l.take k).filter p ++ [l[k]] := by
  rw [List.take_succ_eq_append_getElem hk, List.filter_append]; simp [h]
theorem filter_no {α : Type} {p : α → Bool} {l : List α} {k : Nat} (hk : k < l.length) (h : p l[k] = false) : (l.take (k + 1)).filter p = (l.take k).filter p := by
  rw [List.take_succ_eq_append_getElem hk, List.filter_append]; simp [h]
theorem filter_len {α : Type} (p : α → Bool) (l : List α) (k : Nat) : ((l.take k).filter p).length ≤ l.length := by
  have h1 := List.length_filter_le p (l.take k)
  rw [List.length_take] at h1
  omega
theorem same_no {l m : List Fa} {k : Nat} (h1 : k < l.length) (h2 : k < m.length) (h : ¬ cmpF l[k].p l[k].a m[k].p m[k].a = 0) : ¬ l = m := fun e => by
  subst e; exact h (cmpF_zero.2 rfl)
theorem same_yes {α : Type} {l m : List α} {k : Nat} (hl : l.length = m.length) (hk : l.length ≤ k) (h : l.take k = m.take k) : l = m := by
  rwa [List.take_of_length_le hk, List.take_of_length_le (by omega)] at h
def fewF (l : List Fa) : Bool := decide (l.length ≤ 300 ∧ ∀ x ∈ l, x.a.length ≤ 20)
theorem fewF_no1 {l : List Fa} (h : 300 < l.length) : fewF l = false := by unfold fewF; rw [decide_eq_false_iff_not]; rintro ⟨g, _⟩; omega
theorem fewF_no2 {l : List Fa} {k : Nat} (hk : k < l.length) (h : 20 < l[k].a.length) : fewF l = false := by
  unfold fewF; rw [decide_eq_false_iff_not]; rintro ⟨_, g⟩; have := g _ (List.getElem_mem hk); omega
theorem fewF_yes {l : List Fa} (h : l.length ≤ 300) (g : ∀ x ∈ l, x.a.length ≤ 20) : fewF l = true := by unfold fewF; rw [decide_eq_true_iff]; exact ⟨h, g⟩
theorem fewF_iff {l : List Fa} : fewF l = true ↔ l.length ≤ 300 ∧ ∀ x ∈ l, x.a.length ≤ 20 := by unfold fewF; rw [decide_eq_true_iff]
/-- An atom without variables. -/
def lift (q : Fa) : Am := ⟨q.p, q.a.map fun n => ⟨false, n⟩⟩
theorem lift_len (q : Fa) : (lift q).a.length = q.a.length := by simp [lift]
theorem lift_next {q : Fa} {k : Nat} (hk : k < q.a.length) : (lift q).a.take k ++ [⟨false, q.a[k]⟩] = (lift q).a.take (k + 1) := by
  rw [List.take_succ_eq_append_getElem (by rw [lift_len]; exact hk)]
  simp [lift]
end Go.Proofs.Ytdkfpgdfjnaciaa.SL
