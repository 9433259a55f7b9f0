/- Engine, data and contracts: parts of the proof of QueryPlays, put together (D7 D8 Sortfa Rel Relb Relins Relput Relp Matchs Matcht Matchr Relq Refrel Refrelb Relr D9 DA Query0 Query Queryb DB Queryc Querylaw S8 Open Queryparts SE). -/
import Derived.Test.YtmomkfedcmogmaaMQueryPlaysA
import Derived.Shelf.SlSortCmp.WholeK
import Derived.Shelf.SlSortCmp.NoneTotal
import Derived.Shelf.SlGeneric
import Derived.Ground.SlsfProg
import Derived.WalkKit
import Derived.ProofKit
import Derived.OpenShut
import Derived.ShutString
import Derived.ChangeOld
import Derived.Below
import Derived.Carry
import Derived.SizedLaws
import Derived.Deep.Slices
set_option linter.unusedVariables false
set_option linter.unusedSimpArgs false
set_option maxHeartbeats 2000000
set_option maxRecDepth 20000
namespace Go.Proofs.Ytmomkfedcmogmaa.SL
def tv (s : Int → Int) (t : Tm) : Int := if t.v then s t.n else t.n
def ap (s : Int → Int) (a : Am) : Fa := ⟨a.p, a.a.map (tv s)⟩
def Mt (a : Am) (f : Fa) : Prop := ∃ s, f = ap s a
noncomputable instance (a : Am) (f : Fa) : Decidable (Mt a f) := Classical.propDecidable _
noncomputable def mtch (a : Am) (f : Fa) : Bool := decide (Mt a f)
theorem Mt.pred {a : Am} {f : Fa} (h : Mt a f) : a.p = f.p ∧ a.a.length = f.a.length := by obtain ⟨s, rfl⟩ := h; simp [ap]
def fits (s : Int → Int) (a : List Tm) (f : List Int) (i : Nat) : Prop := ∀ k t n, k < i → a[k]? = some t → f[k]? = some n → tv s t = n
theorem fits_zero (s : Int → Int) (a : List Tm) (f : List Int) : fits s a f 0 := fun k t n h => by omega
theorem fits_next {s : Int → Int} {a : List Tm} {f : List Int} {i : Nat} (h1 : i < a.length) (h2 : i < f.length) : fits s a f (i + 1) ↔ fits s a f i ∧ tv s a[i] = f[i] := by
  constructor
  · intro h
    exact ⟨fun k t n hk => h k t n (by omega), h i _ _ (by omega) (List.getElem?_eq_getElem h1) (List.getElem?_eq_getElem h2)⟩
  · rintro ⟨h, g⟩ k t n hk ha hf
    rcases Nat.lt_or_ge k i with q | q
    · exact h k t n q ha hf
    · obtain rfl : k = i := by omega
      rw [List.getElem?_eq_getElem h1] at ha
      rw [List.getElem?_eq_getElem h2] at hf
      cases ha; cases hf; exact g
theorem Mt_of_fits {a : Am} {f : Fa} {s : Int → Int} (hp : a.p = f.p) (hl : a.a.length = f.a.length) (h : fits s a.a f.a a.a.length) : Mt a f := by
  refine ⟨s, ?_⟩
  obtain ⟨p, l⟩ := f
  simp only at hp hl h
  unfold ap
  rw [hp]
  congr 1
  apply List.ext_getElem?
  intro k
  rcases Nat.lt_or_ge k a.a.length with q | q
  · rw [List.getElem?_map, List.getElem?_eq_getElem q, List.getElem?_eq_getElem (by omega)]
    simp only [Option.map_some, Option.some.injEq]
    exact (h k _ _ q (List.getElem?_eq_getElem q) (List.getElem?_eq_getElem (by omega))).symm
  · rw [List.getElem?_eq_none (by omega), List.getElem?_eq_none (by simpa using q)]
theorem fits_of_Mt {a : Am} {s : Int → Int} (i : Nat) : fits s a.a (ap s a).a i := fun k t n hk ha hf => by
  simp only [ap, List.getElem?_map, ha, Option.map_some, Option.some.injEq] at hf
  exact hf
theorem mtch_no {a : Am} {f : Fa} (h : a.p = f.p → a.a.length = f.a.length → False) : mtch a f = false := by
  unfold mtch
  rw [decide_eq_false_iff_not]
  intro c; exact h c.pred.1 c.pred.2
def agrees (σ : Int → Option Int) (s : Int → Int) : Prop := ∀ n m, 0 ≤ n → σ n = some m → s n = m
def upd (σ : Int → Option Int) (n m : Int) : Int → Option Int := fun k => if k = n then some m else σ k
def inv (σ : Int → Option Int) (a : List Tm) (f : List Int) (i : Nat) : Prop := ∀ s, fits s a f i ↔ agrees σ s
theorem inv_zero (a : List Tm) (f : List Int) : inv (fun _ => none) a f 0 := fun s => ⟨fun _ n m _ h => (by cases h), fun _ => fits_zero s a f⟩
theorem inv_sym {σ : Int → Option Int} {a : List Tm} {f : List Int} {i : Nat} (h : inv σ a f i) (h1 : i < a.length) (h2 : i < f.length) (hv : a[i].v = false) (hn : a[i].n = f[i]) : inv σ a f (i + 1) := fun s => by
  rw [fits_next h1 h2, h s]
  simp [tv, hv, hn]
theorem inv_var {σ : Int → Option Int} {a : List Tm} {f : List Int} {i : Nat} (h : inv σ a f i) (h1 : i < a.length) (h2 : i < f.length) (hv : a[i].v = true) (h0 : 0 ≤ a[i].n) (hn : σ a[i].n = none ∨ σ a[i].n = some f[i]) : inv (upd σ a[i].n f[i]) a f (i + 1) := fun s => by
  rw [fits_next h1 h2, h s]
  simp only [tv, hv, if_true]
  constructor
  · rintro ⟨g1, g2⟩ n m hn0 e
    unfold upd at e
    split at e
    · rename_i q; cases e; rw [q]; exact g2
    · exact g1 n m hn0 e
  · intro g
    refine ⟨fun n m hn0 e => ?_, g _ _ h0 (by simp [upd])⟩
    by_cases q : n = a[i].n
    · subst q
      rcases hn with hn | hn
      · rw [hn] at e; cases e
      · rw [hn] at e; cases e
        exact g _ _ h0 (by simp [upd])
    · exact g n m hn0 (by simp [upd, q, e])
theorem mtch_sym_no {a : Am} {f : Fa} {i : Nat} (h1 : i < a.a.length) (h2 : i < f.a.length) (hv : a.a[i].v = false) (hn : ¬ a.a[i].n = f.a[i]) : mtch a f = false := by
  unfold mtch
  rw [decide_eq_false_iff_not]
  rintro ⟨s, rfl⟩
  have := fits_of_Mt (a := a) (s := s) (i + 1) i _ _ (by omega) (List.getElem?_eq_getElem h1) (List.getElem?_eq_getElem h2)
  simp only [tv, hv] at this
  exact hn (by simpa using this)
theorem mtch_var_no {σ : Int → Option Int} {a : Am} {f : Fa} {i : Nat} (h : inv σ a.a f.a i) (h1 : i < a.a.length) (h2 : i < f.a.length) (hv : a.a[i].v = true) (h0 : 0 ≤ a.a[i].n) (hn : ¬ (σ a.a[i].n = none ∨ σ a.a[i].n = some f.a[i])) : mtch a f = false := by
  unfold mtch
  rw [decide_eq_false_iff_not]
  rintro ⟨s, rfl⟩
  have g := fits_of_Mt (a := a) (s := s) (i + 1) i _ _ (by omega) (List.getElem?_eq_getElem h1) (List.getElem?_eq_getElem h2)
  have g2 := (h s).1 (fits_of_Mt i)
  simp only [tv, hv, if_true] at g
  cases e : σ a.a[i].n with
  | none => exact hn (.inl e)
  | some m =>
    have := g2 _ _ h0 e
    refine hn (.inr ?_)
    rw [e, ← g, this]
theorem mtch_yes {σ : Int → Option Int} {a : Am} {f : Fa} (hp : a.p = f.p) (hl : a.a.length = f.a.length) (h : inv σ a.a f.a a.a.length) : mtch a f = true := by
  unfold mtch
  rw [decide_eq_true_iff]
  exact Mt_of_fits hp hl ((h fun n => (σ n).getD 0).2 fun n m _ e => by simp [e])
def sig (few : List Int) (is : List Bool) (many : List Tm) (by_ : List Int) (n : Int) : Option Int :=
  if n < 16 then (if is[n.toNat]? = some true then few[n.toNat]? else none) else (many.findIdx? (· = ⟨true, n⟩)).bind (by_[·]?)
structure HeldOk (few : List Int) (is : List Bool) (many : List Tm) (by_ : List Int) (σ : Int → Option Int) (m : Nat) : Prop where
  l1 : few.length = 16
  l2 : is.length = 16
  l3 : many.length = by_.length
  l4 : many.length ≤ m
  so : ∀ n, 0 ≤ n → sig few is many by_ n = σ n
theorem held_small {few : List Int} {is : List Bool} {many : List Tm} {by_ : List Int} {σ : Int → Option Int} {m : Nat} (h : HeldOk few is many by_ σ m) {n : Nat} (hn : n < 16) (x : Int) :
    HeldOk (few.set n x) (is.set n true) many by_ (upd σ n x) m := by
  refine ⟨by simp [h.l1], by simp [h.l2], h.l3, h.l4, fun k hk => ?_⟩
  unfold sig upd
  have h1 := h.l1
  have h2 := h.l2
  by_cases e : k = n
  · subst e
    simp [show ((n : Int) < 16) by omega, h1, h2, hn]
  · have hs := h.so k hk
    unfold sig at hs
    rw [if_neg e, ← hs]
    by_cases hk16 : k < 16
    · rw [if_pos hk16, if_pos hk16, List.getElem?_set_ne (by omega), List.getElem?_set_ne (by omega)]
    · rw [if_neg hk16, if_neg hk16]
theorem findIdx_app {l : List Tm} {x y : Tm} : (l ++ [y]).findIdx? (· = x) = match l.findIdx? (· = x) with | some j => some j | none => if y = x then some l.length else none := by
  rw [List.findIdx?_append]
  cases e : l.findIdx? (· = x) with
  | some j => simp
  | none =>
    by_cases q : y = x
    · simp [q, List.findIdx?_cons]
    · simp [q, List.findIdx?_cons]
theorem findIdx_lt {l : List Tm} {x : Tm} {j : Nat} (h : l.findIdx? (· = x) = some j) : j < l.length := by
  rw [List.findIdx?_eq_some_iff_getElem] at h
  exact h.1
theorem held_new {few : List Int} {is : List Bool} {many : List Tm} {by_ : List Int} {σ : Int → Option Int} {m : Nat} (h : HeldOk few is many by_ σ m) {n : Int} (hn : ¬ n < 16) (hf : many.findIdx? (· = ⟨true, n⟩) = none) (x : Int) :
    HeldOk few is (many ++ [⟨true, n⟩]) (by_ ++ [x]) (upd σ n x) (m + 1) := by
  refine ⟨h.l1, h.l2, by simp [h.l3], by have := h.l4; simp; omega, fun k hk => ?_⟩
  have hs := h.so k hk
  unfold sig at hs ⊢
  unfold upd
  by_cases hk16 : k < 16
  · rw [if_pos hk16] at hs ⊢
    rw [if_neg (show ¬ k = n by omega), ← hs]
  · rw [if_neg hk16] at hs ⊢
    rw [findIdx_app]
    by_cases e : k = n
    · subst e
      rw [hf, if_pos rfl]
      simp [h.l3]
    · rw [if_neg e, ← hs]
      cases e2 : many.findIdx? (· = ⟨true, k⟩) with
      | none =>
        have : ¬ (⟨true, n⟩ : Tm) = ⟨true, k⟩ := fun q => e (by cases q; rfl)
        simp [this]
      | some j =>
        have := findIdx_lt e2
        have h3 := h.l3
        simp only [Option.bind_some]
        rw [List.getElem?_append_left (by omega)]
def idxT (l : List Tm) (x : Tm) : Int := match l.findIdx? (· = x) with | some j => (j : Int) | none => -1
theorem idxT_hit {l : List Tm} {x : Tm} {k : Nat} (hk : k < l.length) (hz : ∀ y ∈ l.take k, ¬ y = x) (e : l[k] = x) : l.findIdx? (· = x) = some k := by
  rw [List.findIdx?_eq_some_iff_getElem]
  refine ⟨hk, by simpa using e, fun j hj => ?_⟩
  have := hz l[j] (List.mem_take_iff_getElem.2 ⟨j, by omega, rfl⟩)
  simpa using this
theorem idxT_none {l : List Tm} {x : Tm} (hz : ∀ y ∈ l, ¬ y = x) : l.findIdx? (· = x) = none := by
  rw [List.findIdx?_eq_none_iff]
  intro y hy; simpa using hz y hy
theorem mem_take_next' {α : Type} {l : List α} {k : Nat} (hk : k < l.length) {P : α → Prop} (h : ∀ y ∈ l.take k, P y) (g : P l[k]) : ∀ y ∈ l.take (k + 1), P y := by
  rw [List.take_succ_eq_append_getElem hk]
  intro y hy
  rcases List.mem_append.1 hy with hy | hy
  · exact h y hy
  · simp at hy; subst hy; exact g
def pairs (a : List Tm) (f : List Int) (i : Nat) : Prop := ∀ k t n, k < i → a[k]? = some t → f[k]? = some n → (t.v = false → t.n = n) ∧ ∀ j m, j < k → a[j]? = some t → f[j]? = some m → t.v = true → m = n
theorem mtch_pairs {a : Am} {f : Fa} (hp : a.p = f.p) (hl : a.a.length = f.a.length) (h : pairs a.a f.a a.a.length) : mtch a f = true := by
  unfold mtch
  rw [decide_eq_true_iff]
  let s : Int → Int := fun x => match a.a.findIdx? (· = ⟨true, x⟩) with
    | some j => f.a.getD j 0
    | none => 0
  refine Mt_of_fits (s := s) hp hl fun k t n hk ha hf => ?_
  obtain ⟨g1, g2⟩ := h k t n hk ha hf
  unfold tv
  cases hv : t.v with
  | false => simpa using g1 hv
  | true =>
    simp only [if_true]
    have ht : t = ⟨true, t.n⟩ := by cases t; simp_all
    cases e : a.a.findIdx? (· = (⟨true, t.n⟩ : Tm)) with
    | none =>
      rw [List.findIdx?_eq_none_iff] at e
      have := e t (List.mem_of_getElem? ha)
      simp [← ht] at this
    | some j =>
      show (match a.a.findIdx? (· = (⟨true, t.n⟩ : Tm)) with | some j => f.a.getD j 0 | none => 0) = n
      rw [e]
      rw [List.findIdx?_eq_some_iff_getElem] at e
      obtain ⟨hj, e1, e2⟩ := e
      have e1' : a.a[j] = t := by rw [ht]; simpa using e1
      rcases Nat.lt_trichotomy j k with q | q | q
      · show f.a.getD j 0 = n
        rw [List.getD_eq_getElem?_getD, List.getElem?_eq_getElem (by omega)]
        exact g2 j _ q (by rw [List.getElem?_eq_getElem hj, e1']) (List.getElem?_eq_getElem (by omega)) hv
      · subst q
        show f.a.getD j 0 = n
        simp [hf]
      · have := e2 k q
        rw [List.getElem?_eq_getElem (by omega)] at ha
        have ha' : a.a[k] = t := by simpa using ha
        rw [ha', ← ht] at this
        simp at this
theorem pairs_of {a : Am} {f : Fa} (h : mtch a f = true) (i : Nat) : pairs a.a f.a i := by
  unfold mtch at h
  rw [decide_eq_true_iff] at h
  obtain ⟨s, rfl⟩ := h
  intro k t n hk ha hf
  have h1 := fits_of_Mt (a := a) (s := s) (k + 1) k t n (by omega) ha hf
  refine ⟨fun hv => by simpa [tv, hv] using h1, fun j m hj ha2 hf2 hv => ?_⟩
  have h2 := fits_of_Mt (a := a) (s := s) (j + 1) j t m (by omega) ha2 hf2
  rw [← h1, ← h2]
def hc (few : List Int) (is : List Bool) (tail : List Value) : List Value := few.map (Value.int .u32) ++ (is.map Value.bool ++ tail)
theorem hc_few {few : List Int} {is : List Bool} {tail : List Value} {j oo : Nat} (hj : j < few.length) (ho : oo = j) : (hc few is tail)[oo]? = some (.int .u32 few[j]) := by
  subst ho
  unfold hc
  rw [List.getElem?_append_left (by simpa using hj)]
  simp [hj]
theorem hc_is {few : List Int} {is : List Bool} {tail : List Value} {j oo : Nat} (hj : j < is.length) (ho : oo = few.length + j) : (hc few is tail)[oo]? = some (.bool is[j]) := by
  subst ho
  unfold hc
  rw [List.getElem?_append_right (by simp), List.getElem?_append_left (by simpa using hj)]
  simp [hj]
theorem hc_tail {few : List Int} {is : List Bool} {tail : List Value} {j oo : Nat} {v : Value} (hj : tail[j]? = some v) (ho : oo = few.length + (is.length + j)) : (hc few is tail)[oo]? = some v := by
  subst ho
  unfold hc
  rw [List.getElem?_append_right (by simp), List.getElem?_append_right (by simp)]
  simp [hj]
theorem putS_one {l : List Value} {n : Nat} {v : Value} (h : n < l.length) : putS n [v] l = l.set n v := by
  unfold putS
  rw [List.set_eq_take_append_cons_drop]
  simp [h]
theorem hc_put_few {few : List Int} {is : List Bool} {tail : List Value} {j oo : Nat} {x : Int} (hj : j < few.length) (ho : oo = j) : putL oo [.int .u32 x] (hc few is tail) = some (hc (few.set j x) is tail) := by
  subst ho
  have hl : (hc few is tail).length = few.length + (is.length + tail.length) := by simp [hc]
  rw [putL_put _ _ _ (by rw [hl]; simp; omega), putS_one (by rw [hl]; omega)]
  unfold hc
  rw [List.set_append_left _ _ (by simpa using hj), List.map_set]
theorem hc_put_is {few : List Int} {is : List Bool} {tail : List Value} {j oo : Nat} {x : Bool} (hj : j < is.length) (ho : oo = few.length + j) : putL oo [.bool x] (hc few is tail) = some (hc few (is.set j x) tail) := by
  subst ho
  have hl : (hc few is tail).length = few.length + (is.length + tail.length) := by simp [hc]
  rw [putL_put _ _ _ (by rw [hl]; simp; omega), putS_one (by rw [hl]; omega)]
  unfold hc
  rw [List.set_append_right _ _ (by simp), List.set_append_left _ _ (by simpa using hj), List.map_set]
  simp
theorem hc_put_tail {few : List Int} {is : List Bool} {tail : List Value} {j oo : Nat} {v : Value} (hj : j < tail.length) (ho : oo = few.length + (is.length + j)) : putL oo [v] (hc few is tail) = some (hc few is (tail.set j v)) := by
  subst ho
  have hl : (hc few is tail).length = few.length + (is.length + tail.length) := by simp [hc]
  rw [putL_put _ _ _ (by rw [hl]; simp; omega), putS_one (by rw [hl]; omega)]
  unfold hc
  rw [List.set_append_right _ _ (by simp), List.set_append_right _ _ (by simp)]
  simp
theorem tm_eq (x y : Tm) : (x.v == y.v && (decide (x.n = y.n) && true)) = decide (y = x) := by
  obtain ⟨a, b⟩ := x
  obtain ⟨c, d⟩ := y
  by_cases h1 : a = c
  · by_cases h2 : b = d
    · simp [h1, h2]
    · simp [h1, h2, Ne.symm h2, eq_comm]
  · simp [h1, Ne.symm h1]
theorem st_new {few : List Int} {is : List Bool} {σ : Int → Option Int} {j : Nat} {n : Int} (hj : j < 16) (f1 : few.length = 16) (f2 : is.length = 16) (f3 : (if is[j]? = some true then few[j]? else none) = σ j) (g : is[j] = false) :
    decide (σ (j : Int) = none ∨ σ (j : Int) = some n) = true := by
  rw [← f3, List.getElem?_eq_getElem (by omega), g]; simp
theorem st_old {few : List Int} {is : List Bool} {σ : Int → Option Int} {j : Nat} {n : Int} (hj : j < 16) (f1 : few.length = 16) (f2 : is.length = 16) (f3 : (if is[j]? = some true then few[j]? else none) = σ j) (g : is[j] = true) :
    decide (σ (j : Int) = none ∨ σ (j : Int) = some n) = decide (few[j] = n) := by
  rw [← f3, List.getElem?_eq_getElem (by omega), g, List.getElem?_eq_getElem (by omega)]; simp
theorem sig_big {few : List Int} {is : List Bool} {many : List Tm} {by_ : List Int} {σ : Int → Option Int} {m : Nat} (h : HeldOk few is many by_ σ m) {x : Int} (hx : 16 ≤ x) : (many.findIdx? (· = ⟨true, x⟩)).bind (by_[·]?) = σ x := by
  have := h.so x (by omega)
  rwa [sig, if_neg (by omega)] at this
theorem upd_same {σ : Int → Option Int} {x n : Int} (h : σ x = some n) : σ = upd σ x n := by
  funext k
  unfold upd
  split
  · rename_i e; rw [e, h]
  · rfl
theorem idx_yes {l : List Tm} {x : Tm} (h : 0 ≤ idxT l x) : ∃ k, l.findIdx? (· = x) = some k ∧ idxT l x = k ∧ k < l.length := by
  unfold idxT at h ⊢
  cases e : l.findIdx? (· = x) with
  | none => rw [e] at h; simp at h
  | some k => exact ⟨k, rfl, rfl, findIdx_lt e⟩
theorem idx_no {l : List Tm} {x : Tm} (h : ¬ 0 ≤ idxT l x) : l.findIdx? (· = x) = none := by
  unfold idxT at h
  cases e : l.findIdx? (· = x) with
  | none => rfl
  | some k => rw [e] at h; simp at h
theorem hc_put_a {few : List Int} {is : List Bool} {u v x : Value} {oo : Nat} (ho : oo = few.length + (is.length + 0)) : putL oo [x] (hc few is [u, v]) = some (hc few is [x, v]) := hc_put_tail (j := 0) (by simp) ho
theorem hc_put_b {few : List Int} {is : List Bool} {u v x : Value} {oo : Nat} (ho : oo = few.length + (is.length + 1)) : putL oo [x] (hc few is [u, v]) = some (hc few is [u, x]) := hc_put_tail (j := 1) (by simp) ho
theorem held_zero : HeldOk (List.replicate 16 0) (List.replicate 16 false) [] [] (fun _ => none) 0 := ⟨rfl, rfl, rfl, by simp, fun n hn => by
  unfold sig
  split
  · rw [List.getElem?_replicate]; split <;> simp
  · rfl⟩
theorem mtch_pair_no {a : Am} {f : Fa} {i j : Nat} (hj : j < i) (h1 : i < a.a.length) (h2 : i < f.a.length) (hv : a.a[i].v = true) (he : a.a[i] = a.a[j]) (hn : ¬ f.a[j] = f.a[i]) : mtch a f = false := by
  cases e : mtch a f with
  | false => rfl
  | true =>
    have := (pairs_of e (i + 1) i _ _ (by omega) (List.getElem?_eq_getElem h1) (List.getElem?_eq_getElem h2)).2 j f.a[j] hj (by rw [List.getElem?_eq_getElem (by omega), he]) (List.getElem?_eq_getElem (by omega)) hv
    exact absurd this hn
theorem pairs_next {a : List Tm} {f : List Int} {i : Nat} (h : pairs a f i) (h1 : i < a.length) (h2 : i < f.length) (g1 : a[i].v = false → a[i].n = f[i]) (g2 : ∀ j (hj : j < i), a[i].v = true → a[i] = a[j] → f[j] = f[i]) : pairs a f (i + 1) := by
  intro k t n hk ha hf
  rcases Nat.lt_or_ge k i with q | q
  · exact h k t n q ha hf
  · obtain rfl : k = i := by omega
    rw [List.getElem?_eq_getElem h1] at ha
    rw [List.getElem?_eq_getElem h2] at hf
    cases ha; cases hf
    refine ⟨g1, fun j m hj ha2 hf2 hv => ?_⟩
    rw [List.getElem?_eq_getElem (by omega)] at ha2 hf2
    simp only [Option.some.injEq] at ha2 hf2
    rw [← hf2]
    exact g2 j hj hv ha2.symm
theorem filter_yes {α : Type} {p : α → Bool} {l : List α} {k : Nat} (hk : k < l.length) (h : p l[k] = true) : (l.take (k + 1)).filter p = (l.take k).filter p ++ [l[k]] := by
  rw [List.take_succ_eq_append_getElem hk, List.filter_append]; simp [h]
theorem filter_no {α : Type} {p : α → Bool} {l : List α} {k : Nat} (hk : k < l.length) (h : p l[k] = false) : (l.take (k + 1)).filter p = (l.take k).filter p := by
  rw [List.take_succ_eq_append_getElem hk, List.filter_append]; simp [h]
theorem filter_len {α : Type} (p : α → Bool) (l : List α) (k : Nat) : ((l.take k).filter p).length ≤ l.length := by
  have h1 := List.length_filter_le p (l.take k)
  rw [List.length_take] at h1
  omega
theorem same_no {l m : List Fa} {k : Nat} (h1 : k < l.length) (h2 : k < m.length) (h : ¬ cmpF l[k].p l[k].a m[k].p m[k].a = 0) : ¬ l = m := fun e => by
  subst e; exact h (cmpF_zero.2 rfl)
theorem same_yes {α : Type} {l m : List α} {k : Nat} (hl : l.length = m.length) (hk : l.length ≤ k) (h : l.take k = m.take k) : l = m := by
  rwa [List.take_of_length_le hk, List.take_of_length_le (by omega)] at h
def fewF (l : List Fa) : Bool := decide (l.length ≤ 300 ∧ ∀ x ∈ l, x.a.length ≤ 20)
theorem fewF_iff {l : List Fa} : fewF l = true ↔ l.length ≤ 300 ∧ ∀ x ∈ l, x.a.length ≤ 20 := by unfold fewF; rw [decide_eq_true_iff]
def lift (q : Fa) : Am := ⟨q.p, q.a.map fun n => ⟨false, n⟩⟩
theorem lift_len (q : Fa) : (lift q).a.length = q.a.length := by simp [lift]
theorem lift_next {q : Fa} {k : Nat} (hk : k < q.a.length) : (lift q).a.take k ++ [⟨false, q.a[k]⟩] = (lift q).a.take (k + 1) := by
  rw [List.take_succ_eq_append_getElem (by rw [lift_len]; exact hk)]
  simp [lift]
theorem mem_less {a b : List Fa} {x : Fa} : x ∈ less a b ↔ x ∈ a ∧ ¬ x ∈ b := by simp [less]
theorem rises_less {a : List Fa} (h : rises a) (b : List Fa) : rises (less a b) := rises_filter h _
theorem less_len (a b : List Fa) : (less a b).length ≤ a.length := List.length_filter_le _ _
theorem ap_lift (s : Int → Int) (q : Fa) : ap s (lift q) = q := by
  obtain ⟨p, a⟩ := q
  simp [ap, lift, tv, Function.comp_def]
theorem mtch_lift (q f : Fa) : mtch (lift q) f = decide (f = q) := by
  unfold mtch
  rw [decide_eq_decide]
  constructor
  · rintro ⟨s, h⟩; rw [ap_lift] at h; exact h
  · rintro rfl; exact ⟨fun _ => 0, (ap_lift _ _).symm⟩
theorem cmpF_self (p : Int) (a : List Int) : cmpF p a p a = 0 := cmpF_zero (x := ⟨p, a⟩) |>.2 rfl
structure Fine (l : List Fa) : Prop where
  r : rises l
  n : l.length ≤ 1000000
  b : ∀ x ∈ l, x.a.length ≤ 100000
theorem Fine.less {a : List Fa} (h : Fine a) (b : List Fa) : Fine (less a b) := ⟨rises_less h.r b, Nat.le_trans (less_len _ _) h.n, fun x hx => h.b x (mem_less.1 hx).1⟩
theorem Fine.nil : Fine [] := ⟨rises_nil, by simp, by simp⟩
theorem Fine.fof {l : List Fa} (h1 : l.length ≤ 1000000) (h2 : ∀ x ∈ l, x.a.length ≤ 100000) : Fine (fof l) := ⟨rises_fof l, Nat.le_trans (fof_len l) h1, fun x hx => h2 x (mem_fof.1 hx)⟩
theorem Fine.few {l : List Fa} (h : fewF l = true) : Fine (SL.fof l) := by
  obtain ⟨h1, h2⟩ := fewF_iff.1 h
  exact Fine.fof (by omega) (fun x hx => Nat.le_trans (h2 x hx) (by omega))
theorem rem_idx {x : Int} {n : Nat} (hx : 0 ≤ x) (hn : 0 < n) : ∃ j : Nat, j < n ∧ x.tmod (n : Int) = (j : Int) := by
  obtain ⟨m, rfl⟩ := Int.eq_ofNat_of_zero_le hx
  exact ⟨m % n, Nat.mod_lt _ hn, tmod_cast m n⟩
theorem lift_ok {x : Fa} (h : x.ok) : ∀ t ∈ (lift x).a, 0 ≤ t.n := fun t ht => by
  simp only [lift, List.mem_map] at ht
  obtain ⟨n, hn, rfl⟩ := ht
  exact (h.2 n hn).1
end Go.Proofs.Ytmomkfedcmogmaa.SL
namespace Go.Proofs.Ytmomkfedcmogmaa.SL
open Go
open Go.Shelf Go.RowKit Go.Lib Go.Sort
theorem Spec.grown {P : Program} {f : FuncId} {args : Array Value} {Ps : List PA} {V : Value} (s : Spec P f args Ps [] (fun v P' O' => v = V ∧ P' = [] ∧ O' = [])) (W : World) (h : ∀ p, p ∈ Ps → p.p (hpOf W)) :
    Calls P f args W fun e w' => e = .returned V ∧ ∃ q os', w' = Sort.grow (W.drewN q) os' := by
  refine (s.calls W (hpOf W) Heap.nil Heap.nil ⟨Heap.le_refl _, Heap.nil_le _, Heap.dj_symm (Heap.nil_dj _), h, trivial⟩ (Heap.nil_le _) (Heap.nil_dj _) (Heap.nil_dj _)).mono ?_
  rintro e w' ⟨v, hp', ho', Ps', Os', rfl, ⟨rfl, _, _⟩, hs, hle, _, _, _, hr⟩
  refine ⟨rfl, w'.drawn - W.drawn, w'.heap.extract W.heap.size w'.heap.size, ?_⟩
  have hd := hr.drawn
  have hsz := hr.size
  have hh : w'.heap = W.heap ++ w'.heap.extract W.heap.size w'.heap.size := by
    apply Array.ext_getElem?
    intro i
    rw [Array.getElem?_append]
    split
    · rename_i hi
      have h1 : hpOf W i = some W.heap[i] := by simp [hpOf, hi]
      have h2 := hs.inp _ _ (hle _ _ h1)
      unfold hpOf at h1 h2
      rw [h2, h1]
    · rename_i hi
      rw [Array.getElem?_extract]
      split
      · congr 1; omega
      · rename_i hj
        rw [Array.getElem?_eq_none]
        omega
  obtain ⟨h1, t1, d1, o1, p1⟩ := w'
  obtain ⟨h2, t2, d2, o2, p2⟩ := W
  have e1 := hr.os
  have e2 := hr.tape
  have e3 := hr.output
  simp only at e1 e2 e3 hh hd
  subst e1; subst e2; subst e3
  simp only [Sort.grow, World.drewN]
  congr 1
  · omega
structure RFx (hp : Heap) where
  f : Fa
  A : Option Addr
  c : Nat
  s : Sl tU hp A c f.a
instance (hp : Heap) : Inhabited (RFx hp) := ⟨⟨⟨0, []⟩, none, 0, ⟨by simp, by simp, fun _ => rfl, fun j x h => by simp at h⟩⟩⟩
def encR {hp : Heap} (x : RFx hp) : List Value := [.int .u32 x.f.p, .slice x.A x.f.a.length x.c]
def cfR {hp : Heap} (x y : RFx hp) : Int := cF x.f y.f
theorem swoR (hp : Heap) : SWO (ltOf (cfR (hp := hp))) := ⟨fun x => by unfold ltOf cfR; rw [cF_zero.2 rfl]; rfl, fun x y z h g => by
    unfold ltOf cfR at *; rw [decide_eq_true_iff] at *; exact cF_trans h g, fun x y z h g => by
    unfold ltOf cfR at *; rw [decide_eq_false_iff_not] at *
    intro c
    rw [cF_swap] at h g
    rcases cF_range y.f x.f with e | e | e
    · exact g (by have := cF_trans (show cF y.f x.f < 0 by omega) c; rw [cF_swap] at this; exact this)
    · rw [cF_zero.1 e] at g; rw [cF_swap] at c; omega
    · omega⟩
theorem flat_cells {hp : Heap} (d : Array (RFx hp)) : (flatK encR 2 d).toList = d.toList.flatMap encR := by
  apply List.ext_getElem?
  intro i
  have key : ∀ (l : List (RFx hp)) (i : Nat), (l.flatMap encR)[i]? = (l[i / 2]?).bind fun x => (encR x)[i % 2]? := by
    intro l
    induction l with
    | nil => intro i; simp
    | cons x l ih =>
      intro i
      rw [List.flatMap_cons]
      match i with
      | 0 => rfl
      | 1 => rfl
      | i + 2 =>
        rw [List.getElem?_append_right (by simp [encR])]
        have e1 : (i + 2) / 2 = i / 2 + 1 := by omega
        have e2 : (i + 2) % 2 = i % 2 := by omega
        rw [show i + 2 - (encR x).length = i from by simp [encR], ih i, e1, e2]
        rfl
  rw [key, Array.getElem?_toList]
  rcases Nat.lt_or_ge i (d.size * 2) with h | h
  · have h1 : i / 2 < d.size := by omega
    have h2 := get_flatK encR 2 d i h
    rw [getElem!_pos (flatK encR 2 d) i (by simpa using h), getElem!_pos d (i / 2) h1] at h2
    rw [Array.getElem?_eq_getElem (by simpa using h), h2, Array.getElem?_toList, Array.getElem?_eq_getElem h1]
    have h3 : i % 2 < (encR d[i / 2]).length := by simp [encR]; omega
    rw [getElem!_pos (encR d[i / 2]) (i % 2) h3]
    simp [List.getElem?_eq_getElem h3]
  · rw [Array.getElem?_eq_none (by simpa using h), Array.getElem?_toList, Array.getElem?_eq_none (by omega)]
    rfl
theorem reps_R {hp : Heap} : ∀ {l : List Fa} {cs : List Value}, Reps tFa hp l cs → ∃ xs : List (RFx hp), xs.map (fun x => x.f) = l ∧ xs.flatMap encR = cs
  | [], cs, e => ⟨[], rfl, e.symm⟩
  | x :: l, _, ⟨a, b, e, r, s⟩ => by
    obtain ⟨A, c, rfl, sx⟩ := tFa_open r
    obtain ⟨xs, h1, h2⟩ := reps_R s
    exact ⟨⟨x, A, c, sx⟩ :: xs, by simp [h1], by rw [List.flatMap_cons, h2, e]; rfl⟩
theorem R_reps {hp : Heap} : ∀ (xs : List (RFx hp)), Reps tFa hp (xs.map fun x => x.f) (xs.flatMap encR)
  | [] => rfl
  | x :: xs => ⟨_, _, by rw [List.flatMap_cons]; rfl, tFa_mk x.s, R_reps xs⟩
def Try.sortFa_ren : Go.Shelf.Ren := ⟨fun | 6 => 25 | 15 => 34 | 14 => 33 | 28 => 50 | 29 => 51 | 20 => 42 | 21 => 43 | 22 => 44 | 23 => 45 | 24 => 46 | 25 => 47 | 26 => 48 | 27 => 49 | 46 => 55 | 47 => 56 | 48 => 57 | 49 => 58 | 50 => 59 | 57 => 60 | n => n, fun | 22 => 22 | 24 => 29 | 25 => 48 | 3 => 3 | 39 => 59 | 0 => 0 | 53 => 23 | 55 => 81 | 4 => 4 | 46 => 73 | 45 => 72 | 50 => 77 | 5 => 5 | 9 => 9 | 66 => 87 | 70 => 91 | 76 => 93 | 77 => 94 | n => n, fun | n => n⟩
theorem Try.sortFa : Go.Proofs.SlLaysF0.n6 Try.prog Try.sortFa_ren := {
  mixed := by kernel_rfl
  f6 := ⟨Try.f25.name, by decide, Try.func25.trans (congrArg some (by kernel_rfl))⟩
  f14 := ⟨Try.f33.name, by decide, Try.func33.trans (congrArg some (by kernel_rfl))⟩
  f15 := Try.func34.trans (congrArg some (by kernel_rfl))
  f20 := ⟨Try.f42.name, by decide, Try.func42.trans (congrArg some (by kernel_rfl))⟩
  f21 := ⟨Try.f43.name, by decide, Try.func43.trans (congrArg some (by kernel_rfl))⟩
  f22 := ⟨Try.f44.name, by decide, Try.func44.trans (congrArg some (by kernel_rfl))⟩
  f23 := ⟨Try.f45.name, by decide, Try.func45.trans (congrArg some (by kernel_rfl))⟩
  f24 := ⟨Try.f46.name, by decide, Try.func46.trans (congrArg some (by kernel_rfl))⟩
  f25 := ⟨Try.f47.name, by decide, Try.func47.trans (congrArg some (by kernel_rfl))⟩
  f26 := ⟨Try.f48.name, by decide, Try.func48.trans (congrArg some (by kernel_rfl))⟩
  f27 := ⟨Try.f49.name, by decide, Try.func49.trans (congrArg some (by kernel_rfl))⟩
  f28 := Try.func50.trans (congrArg some (by kernel_rfl))
  f29 := Try.func51.trans (congrArg some (by kernel_rfl))
  f46 := ⟨Try.f55.name, by decide, Try.func55.trans (congrArg some (by kernel_rfl))⟩
  f47 := Try.func56.trans (congrArg some (by kernel_rfl))
  f48 := Try.func57.trans (congrArg some (by kernel_rfl))
  f49 := ⟨Try.f58.name, by decide, Try.func58.trans (congrArg some (by kernel_rfl))⟩
  f50 := ⟨Try.f59.name, by decide, Try.func59.trans (congrArg some (by kernel_rfl))⟩
  f57 := ⟨Try.f60.name, by decide, Try.func60.trans (congrArg some (by kernel_rfl))⟩
  t0 := Try.underlying0
  a0 := Try.isAgg0
  z0 := Try.sizeOf0
  v0 := Try.zeroValue0
  t3 := Try.underlying3
  a3 := Try.isAgg3
  z3 := Try.sizeOf3
  v3 := Try.zeroValue3
  t4 := Try.underlying4
  a4 := Try.isAgg4
  z4 := Try.sizeOf4
  v4 := Try.zeroValue4
  t5 := Try.underlying5
  a5 := Try.isAgg5
  z5 := Try.sizeOf5
  v5 := Try.zeroValue5
  t9 := Try.underlying9
  a9 := Try.isAgg9
  z9 := Try.sizeOf9
  v9 := Try.zeroValue9
  t22 := Try.underlying22
  a22 := Try.isAgg22
  z22 := Try.sizeOf22
  v22 := Try.zeroValue22
  t25 := Try.underlying48
  a25 := Try.isAgg48
  z25 := Try.sizeOf48
  v25 := Try.zeroValue48
  t39 := Try.underlying59
  a39 := Try.isAgg59
  z39 := Try.sizeOf59
  v39 := Try.zeroValue59
  t45 := Try.underlying72
  a45 := Try.isAgg72
  z45 := Try.sizeOf72
  v45 := Try.zeroValue72
  t46 := Try.underlying73
  a46 := Try.isAgg73
  z46 := Try.sizeOf73
  v46 := Try.zeroValue73
  t50 := Try.underlying77
  a50 := Try.isAgg77
  z50 := Try.sizeOf77
  v50 := Try.zeroValue77
  t53 := Try.underlying23
  a53 := Try.isAgg23
  z53 := Try.sizeOf23
  v53 := Try.zeroValue23
  t55 := Try.underlying81
  a55 := Try.isAgg81
  z55 := Try.sizeOf81
  v55 := Try.zeroValue81
  t66 := Try.underlying87
  a66 := Try.isAgg87
  z66 := Try.sizeOf87
  v66 := Try.zeroValue87
  t70 := Try.underlying91
  a70 := Try.isAgg91
  z70 := Try.sizeOf91
  v70 := Try.zeroValue91
  t76 := Try.underlying93
  a76 := Try.isAgg93
  z76 := Try.sizeOf93
  v76 := Try.zeroValue93
  t77 := Try.underlying94
  a77 := Try.isAgg94
  z77 := Try.sizeOf94
  v77 := Try.zeroValue94 }
def isSorted (l m : List Fa) : Prop := l.Perm m ∧ m.Pairwise fun x y => ¬ cF y x < 0
theorem heap_put {w : World} {b : Nat} {cur : Array Value} {e : TypeId} (hb : w.heap[b]? = some (.cells cur e (0, 0))) (F : Array Value) (hF : F.size ≤ cur.size) : ∀ m os i, (Sort.grow (putRow id (Sort.ahead w m) b 0 F) os).heap[i]? = if i < w.heap.size then (if i = b then some (.cells (putS 0 F.toList cur.toList).toArray e (0, 0)) else w.heap[i]?) else os[i - w.heap.size]? := fun m os i => by
  have hlt : b < w.heap.size := (Array.getElem?_eq_some_iff.1 hb).1
  simp only [Sort.grow, putRow, mapBlock, Sort.ahead, Array.getElem?_append, Array.size_modify]
  split
  · rename_i hi
    rw [Array.getElem?_modify]
    by_cases e1 : i = b
    · subst e1
      rw [if_pos rfl, if_pos rfl, hb]
      simp only [Option.map_some, onCells, Option.some.injEq, Obj.cells.injEq, and_true]
      apply Array.ext'
      apply List.ext_getElem?
      intro j
      simp only [putCells, Array.getElem?_toList, Array.getElem?_mapIdx, putS, List.take_zero, List.nil_append, Nat.zero_add, Nat.zero_le, true_and, Nat.sub_zero, id]
      rw [List.getElem?_append]
      simp only [Array.length_toList]
      by_cases hj : j < F.size
      · rw [if_pos hj, Array.getElem?_eq_getElem (by omega), Array.getElem?_toList, Array.getElem?_eq_getElem hj]
        simp only [Option.map_some, Option.some.injEq]
        rw [if_pos hj, getElem!_pos F j hj]
      · rw [if_neg hj, List.getElem?_drop, Array.getElem?_toList, show F.size + (j - F.size) = j from by omega]
        cases hc : cur[j]? with
        | none => rfl
        | some v => simp only [Option.map_some]; rw [if_neg hj]
    · rw [if_neg (fun q => e1 q.symm), if_neg e1]
  · rfl
theorem sortFa (A : Option Addr) (c : Nat) (l : List Fa) (hn : l.length ≤ 1000000) : Spec Try.prog 25 #[.slice A l.length c, .func (.func 26) #[] #[]] [] [ol tFa 29 A c l] (fun v Ps' Os' => ∃ m, isSorted l m ∧ v = .tuple #[] ∧ Ps' = [] ∧ Os' = [ol tFa 29 A c m]) := by
  refine ⟨⟨_, Try.func25, by kernel_rfl, by kernel_rfl⟩, fun w hp ho hf hs hfw d1 d2 => ?_⟩
  obtain ⟨g1, g2, la, lb, ldj, ⟨cs, lrow, lreps⟩, _⟩ := id hs.os
  obtain ⟨q1, q2, q3, q4⟩ := id lrow
  rcases q4 with ⟨q5, q6⟩ | ⟨b, cur, rfl, hb, hcur, htake⟩
  · have hl : l = [] := List.eq_nil_of_length_eq_zero q5
    subst hl
    have hcon := AnyF.slices_SortFunc_none { Try.sortFa with } A c (.func (.func 26) #[] #[]) w
    change Calls Try.prog 25 _ _ _ at hcon
    refine hcon.mono ?_
    rintro e w' ⟨rfl, rfl⟩
    exact ⟨_, hp, ho, [], _, rfl, ⟨[], ⟨.refl _, .nil⟩, rfl, rfl, rfl⟩, hs, Heap.le_refl _, hfw, d1, d2, .refl _⟩
  · obtain ⟨xs, hx1, hx2⟩ := reps_R lreps
    have hob : ho b = some (.cells cur 29 (0, 0)) := la _ _ hb
    have hbw : w.heap[b]? = some (.cells cur 29 (0, 0)) := hs.ino _ _ hob
    have hlt : b < w.heap.size := (Array.getElem?_eq_some_iff.1 hbw).1
    have hpb : hp b = none := by rcases hs.dj b with q | q; · exact q
                                 · rw [hob] at q; cases q
    have hfb : hf b = none := by rcases d2 b with q | q; · exact q
                                 · rw [hob] at q; cases q
    have hxl : xs.length = l.length := by rw [← hx1]; simp
    have hcl : cs.length = xs.length * 2 := by rw [q1, hxl]; rfl
    have hcs : l.length * tFa.size = cs.length := q1.symm
    have hcurL : cs.length ≤ cur.size := by rw [← htake]; simp; omega
    have hF : ∀ d : Array (RFx hp), d.size = xs.length → (flatK encR 2 d).size ≤ cur.size := fun d hd => by rw [size_flatK, hd]; omega
    have hW : ∀ (d : Array (RFx hp)) m os, d.size = xs.length → ∀ h : Heap, h b = none → h.le (hpOf w) → h.le (hpOf (sortWorldK encR 2 w b 0 m d os)) := fun d m os hd h hn hl i o e => by
      have hi : i ≠ b := fun q => by subst q; rw [hn] at e; cases e
      have h1 := hl _ _ e
      have h2 : i < w.heap.size := (Array.getElem?_eq_some_iff.1 h1).1
      show (Sort.grow (putRow id (Sort.ahead w m) b 0 (flatK encR 2 d)) os).heap[i]? = some o
      rw [heap_put hbw _ (hF d hd), if_pos h2, if_neg hi]
      exact h1
    have hH : HoldsK encR 2 w b 0 xs.toArray := fun j hj => by
      rw [size_flatK] at hj
      simp only [List.size_toArray] at hj
      refine ⟨?_, by simp [World.frozen?, hbw]⟩
      have h1 : (flatK encR 2 xs.toArray).toList = cs := by rw [flat_cells, ← hx2]
      have h2 : j < (flatK encR 2 xs.toArray).size := by rw [size_flatK]; simpa using hj
      rw [getElem!_pos _ j h2]
      have h3 : (flatK encR 2 xs.toArray)[j]? = cs[j]? := by rw [← h1, Array.getElem?_toList]
      rw [Array.getElem?_eq_getElem h2] at h3
      have h4 : cs[j]? = cur[j]? := by rw [← htake, List.getElem?_take, if_pos (by rw [hcs]; omega), Array.getElem?_toList]
      simp only [World.cell?, hbw, Nat.zero_add, id]
      rw [h3, h4]
      rfl
    have hC : CmpLays Try.prog 26 #[] encR 2 (cfR (hp := hp)) b 0 xs.toArray.size w := fun m os dk hdk x y => by
      have hle := hW dk m os (by simpa using hdk) hp hpb hs.inp
      exact (atomsCompare x.f.p x.A x.f.a x.c y.f.p y.A y.f.a y.c).grown _ (fun p hm => by
        simp only [List.mem_cons, List.not_mem_nil, or_false] at hm
        rcases hm with rfl | rfl
        · exact x.s.up hle
        · exact y.s.up hle)
    have hcon := AnyQ.slices_SortFunc Try.sortFa 2 Try.isAgg29 Try.sizeOf29 encR (fun _ => rfl) (fun x v hv => by simp only [encR, List.mem_cons, List.not_mem_nil, or_false] at hv; rcases hv with rfl | rfl <;> rfl) cfR (swoR hp) 26 #[] b 0 c xs.toArray w (enters_of Try.func26 (by kernel_rfl) rfl) hC hH hlt (by simp; omega)
    change Calls Try.prog 25 _ _ _ at hcon
    rw [show xs.toArray.size = l.length by simp [hxl]] at hcon
    refine hcon.mono ?_
    rintro e w' ⟨rfl, d', n', os', hperm, hsort, rfl⟩
    have hd' : d'.size = xs.length := by have := hperm.1; simpa using this
    have hml : (d'.toList.map fun x => x.f).length = l.length := by simp [hd', hxl]
    have hfl : (flatK encR 2 d').toList = d'.toList.flatMap encR := flat_cells d'
    have hfs : (flatK encR 2 d').size = l.length * 2 := by rw [size_flatK, hd', hxl]
    have hnb : (hpOf (sortWorldK encR 2 w b 0 n' d' os')) b = some (.cells (putS 0 (flatK encR 2 d').toList cur.toList).toArray 29 (0, 0)) := by
      show (Sort.grow (putRow id (Sort.ahead w n') b 0 (flatK encR 2 d')) os').heap[b]? = _
      rw [heap_put hbw _ (hF d' hd'), if_pos hlt, if_pos rfl]
    have hpl : (putS 0 (flatK encR 2 d').toList cur.toList).length = cur.size := by rw [putS_len (by simp only [Array.length_toList]; rw [hfs]; omega)]; simp
    refine ⟨_, hp, Heap.one b (.cells (putS 0 (flatK encR 2 d').toList cur.toList).toArray 29 (0, 0)), [], [ol tFa 29 (some ⟨b, 0, none⟩) c (d'.toList.map fun x => x.f)], rfl, ⟨_, ⟨?_, ?_⟩, rfl, rfl, rfl⟩, ⟨hW d' n' os' hd' hp hpb hs.inp, Heap.one_le hnb, ?_, (fun _ h => nomatch h), ?_⟩, Heap.le_refl _, hW d' n' os' hd' hf hfb hfw, d1, ?_, rfl, rfl, rfl, ?_, ?_⟩
    · have h1 := hperm.2.2
      rw [show l.length = d'.size by rw [hd', hxl], Array.extract_size] at h1
      rw [show d'.size = xs.toArray.size by simp [hd'], Array.extract_size] at h1
      rw [← hx1]
      exact (h1.map (fun x => x.f)).symm
    · rw [List.pairwise_map, List.pairwise_iff_getElem]
      intro i j hi hj hij
      simp only [Array.length_toList] at hi hj
      have := hsort i j (Nat.zero_le _) hij (by rw [← hxl, ← hd']; exact hj)
      rw [getElem!_pos d' i hi, getElem!_pos d' j hj] at this
      unfold ltOf at this
      rw [decide_eq_false_iff_not] at this
      exact this
    · exact Heap.dj_symm (Heap.one_dj hpb)
    · refine sep_one ⟨d'.toList.flatMap encR, ⟨?_, by rw [hml]; exact q2, q3, .inr ⟨b, _, rfl, one_at _ _, ?_, ?_⟩⟩, R_reps d'.toList⟩
      · rw [← hfl, Array.length_toList, hfs, hml]; rfl
      · rw [List.size_toArray, hpl]; exact hcur
      · rw [hml]
        have := putS_take (n := 0) (vs := (flatK encR 2 d').toList) (l := cur.toList) (by simp only [Array.length_toList]; rw [hfs]; omega) (m := l.length * tFa.size) (by simp only [Array.length_toList]; rw [hfs]; show _ * 2 = _; omega)
        rw [List.toList_toArray, this, hfl]
        simp
    · exact Heap.dj_symm (Heap.one_dj hfb)
    · show w.drawn ≤ w.drawn + n'; omega
    · show w.heap.size ≤ (Sort.grow (putRow id (Sort.ahead w n') b 0 (flatK encR 2 d')) os').heap.size
      simp [Sort.grow, putRow, mapBlock, Sort.ahead]
end Go.Proofs.Ytmomkfedcmogmaa.SL
namespace Go.Proofs.Ytmomkfedcmogmaa.SL
open Go
theorem cloneU (A : Option Addr) (c : Nat) (a : List Int) (hn : a.length ≤ 100000) :
    Spec Try.prog 24 #[.slice A a.length c] [sl tU A c a] [] (fun v Ps' Os' => ∃ A' c', v = .slice A' a.length c' ∧ Ps' = [] ∧ Os' = [ol tU 23 A' c' a]) := by
 refine zSp [.slice A a.length c] Try.func24 Try.ntmps24 (fun w0 hp0 hf0 => ?_)
 refine zB 10 ?_ ?_
 ·intro c1
  (try simp only [dcs, ne_eq] at c1)
  obtain rfl : A = none := by simpa using c1
  refine go_nil_sl (xs := a) zM (fun ha => ?_)
  subst ha
  refine go_own_nil tU 23 none ?_
  refine zT 4 rfl ⟨none, 0, rfl, rfl, rfl⟩
 intro c1
 (try simp only [dcs, ne_eq] at c1)
 refine zV 3 ?_
 intro bo
 refine go_lit_ol (b := bo) tU [] zM (fun _ _ => rfl) (by simp) ?_
 refine zR 1 ?_
 refine go_appendN (T := tU) (xs := []) (ys := a) Tk rfl rfl rfl rfl rfl rfl rfl rfl rfl zM rfl zM (by simp; omega) zF ?_
 intro A2 c2
 rw [List.nil_append]
 refine zT 2 rfl ⟨A2, c2, rfl, rfl, rfl⟩
theorem atomsKind (t : Tm) (n : Int) :
    Spec Try.prog 40 #[.agg #[.bool t.v, .int .u32 t.n], .int .u32 n] [] [] (fun v Ps' Os' => v = .int .i64 (if t.v then 2 else if t.n = n then 1 else 0) ∧ Ps' = [] ∧ Os' = []) := by
 refine zSp [.agg #[.bool t.v, .int .u32 t.n], .int .u32 n] Try.func40 Try.ntmps40 (fun w0 hp0 hf0 => ?_)
 refine zX 2 ?_
 intro b1
 refine zL 7 ?_
 refine zB 2 ?_ ?_
 ·intro h1
  (try simp only [dcs, ne_eq] at h1)
  refine zT 4 rfl ⟨by rw [h1]; rfl, rfl, rfl⟩
 intro h1
 (try simp only [dcs, ne_eq] at h1)
 refine zL 3 ?_
 refine zB 4 ?_ ?_
 ·intro h2
  (try simp only [dcs, ne_eq] at h2)
  refine zT 4 rfl ⟨by rw [h1, if_neg (by decide), if_pos h2], rfl, rfl⟩
 intro h2
 (try simp only [dcs, ne_eq] at h2)
 refine zT 6 rfl ⟨by rw [h1, if_neg (by decide), if_neg h2], rfl, rfl⟩
theorem indexTm (A : Option Addr) (c : Nat) (l : List Tm) (x : Tm) :
    Spec Try.prog 54 #[.slice A l.length c, .agg #[.bool x.v, .int .u32 x.n]] [sl tTm A c l] [] (fun v Ps' Os' => v = .int .i64 (idxT l x) ∧ Ps' = [] ∧ Os' = []) := by
 refine zSp [.slice A l.length c, .agg #[.bool x.v, .int .u32 x.n]] Try.func54 Try.ntmps54 (fun w0 hp0 hf0 => ?_)
 refine zR 1 ?_
 refine go_len (xs := l) zM (fun l0 m0 => ?_)
 refine zX 1 ?_
 intro b1
 refine zR 10 ?_
 refine zO (X := Nat) (fun k => [(8, .int .i64 (k : Int))]) [0, 3, 7] (fun _ => []) (fun k => k ≤ l.length ∧ ∀ y ∈ l.take k, ¬ y = x) (fun k => l.length - k) 0 ⟨by omega, by simp⟩ ?_
 intro k ⟨hk, hz⟩
 refine zD' 5 ?_ ?_
 ·intro c1
  refine zT 5 rfl ⟨by unfold idxT; rw [idxT_none (by rw [List.take_of_length_le (by omega)] at hz; exact hz)], rfl, rfl⟩
 intro c1
 refine zR 9 ?_
 refine go_elem_tm (xs := l) zM (k) (List.getElem?_eq_getElem (by omega)) (fun b o hA => ?_); cases hA
 refine zY 0 [4, 7, 10, 2, 14, 16] ?_
 refine zI 2 ?_
 refine zK 0 ?_
 refine zK 0 ?_
 refine go_val1 rfl (seq_val Tk rfl rfl rfl rfl (by rfl) rfl (by kernel_rfl) (by kernel_rfl)) rfl ?_
 refine go_re 16 (.bool (decide (l[k] = x))) (by show some (Value.bool _) = _; rw [tm_eq]) ?_
 refine zB 1 ?_ ?_
 ·intro c2
  (try simp only [dcs, ne_eq] at c2)
  refine zE 5 [4] ?_
  refine zT 0 rfl ⟨by unfold idxT; rw [idxT_hit (by omega) hz c2], rfl, rfl⟩
 intro c2
 (try simp only [dcs, ne_eq] at c2)
 refine zR 6 ?_
 refine go_i64 8 rfl (by omega) (by omega) ?_
 refine zz (k + 1) ⟨by omega, mem_take_next' (by omega) hz c2⟩ (by omega)
def heldO (b : Nat) (σ : Int → Option Int) (m : Nat) : OA := OA.ex fun few : List Int => OA.ex fun is : List Bool => OA.ex fun many : List Tm => OA.ex fun by_ : List Int => OA.ex fun A1 : Option Addr => OA.ex fun c1 : Nat => OA.ex fun A2 : Option Addr => OA.ex fun c2 : Nat =>
  OA.and (HeldOk few is many by_ σ m) (OA.all [pt b 68 (hc few is [.slice A1 many.length c1, .slice A2 by_.length c2]), ol tTm 37 A1 c1 many, ol tU 23 A2 c2 by_])
theorem go_held {C : Ctx} {k : List It} {E : Env} {Ps : List PA} {Os : List OA} {b m : Nat} {σ : Int → Option Int} {rr : List OA} (h : Rem (heldO b σ m) Os rr)
    (g : ∀ few is many by_ A1 c1 A2 c2, HeldOk few is many by_ σ m → Go C k E Ps ([pt b 68 (hc few is [.slice A1 many.length c1, .slice A2 by_.length c2]), ol tTm 37 A1 c1 many, ol tU 23 A2 c2 by_] ++ rr)) : Go C k E Ps Os :=
  go_oex h fun few => go_oex .here fun is => go_oex .here fun many => go_oex .here fun by_ => go_oex .here fun A1 => go_oex .here fun c1 => go_oex .here fun A2 => go_oex .here fun c2 => go_oand .here fun hk => go_oall .here (g few is many by_ A1 c1 A2 c2 hk)
theorem heldO_mk {b m : Nat} {σ : Int → Option Int} {few : List Int} {is : List Bool} {many : List Tm} {by_ : List Int} {A1 : Option Addr} {c1 : Nat} {A2 : Option Addr} {c2 : Nat} (hk : HeldOk few is many by_ σ m) {hp h : Heap}
    (q : Sep hp [pt b 68 (hc few is [.slice A1 many.length c1, .slice A2 by_.length c2]), ol tTm 37 A1 c1 many, ol tU 23 A2 c2 by_] h) : (heldO b σ m).p hp h := ⟨few, is, many, by_, A1, c1, A2, c2, hk, q⟩
theorem held_more {few : List Int} {is : List Bool} {many : List Tm} {by_ : List Int} {σ : Int → Option Int} {m : Nat} (h : HeldOk few is many by_ σ m) : HeldOk few is many by_ σ (m + 1) := ⟨h.l1, h.l2, h.l3, by have := h.l4; omega, h.so⟩
theorem heldO_more {b m : Nat} {σ : Int → Option Int} {hp h : Heap} (q : (heldO b σ m).p hp h) : (heldO b σ (m + 1)).p hp h := by
  obtain ⟨few, is, many, by_, A1, c1, A2, c2, hk, q⟩ := q
  exact ⟨few, is, many, by_, A1, c1, A2, c2, held_more hk, q⟩
theorem standsSmall (b : Nat) (σ : Int → Option Int) (m : Nat) (j : Nat) (n : Int) (hj : j < 16) :
    Spec Try.prog 41 #[.pointer (some ⟨b, 0, none⟩), .agg #[.bool true, .int .u32 (j : Int)], .int .u32 n] [] [heldO b σ m] (fun v Ps' Os' => ∃ σ', v = .bool (decide (σ (j : Int) = none ∨ σ (j : Int) = some n)) ∧ ((σ (j : Int) = none ∨ σ (j : Int) = some n) → σ' = upd σ (j : Int) n) ∧ Ps' = [] ∧ Os' = [heldO b σ' (m + 1)]) := by
 refine zSp [.pointer (some ⟨b, 0, none⟩), .agg #[.bool true, .int .u32 (j : Int)], .int .u32 n] Try.func41 Try.ntmps41 (fun w0 hp0 hf0 => ?_)
 refine zR 1 ?_
 refine go_held (b := b) zM (fun few is many by_ A1 c1 A2 c2 hk => ?_)
 have f1 := hk.l1
 have f2 := hk.l2
 have f3 := hk.so j (by omega)
 rw [sig, if_pos (by omega), Int.toNat_natCast] at f3
 refine zX 1 ?_
 intro bt
 refine go_freeze_pt (b := bt) zM ?_
 refine zL 6 ?_
 refine zR 1 ?_
 refine go_re 12 (.bool true) (by show some (Value.bool (decide _)) = _; rw [decide_eq_true (by omega)]) ?_
 refine zDt 1 ?_
 refine zY 1 [1, 4, 10, 13, 8, 16, 20, 22] ?_
 refine zK 4 ?_
 refine zIA 0 ?_
 refine go_val2a rfl (load_val (cs := [.int .u32 few[j]]) Tk rfl rfl rfl (at_one zM (hc_few (by omega) (by show 0 + 0 + j * 1 = j; omega))) rfl) rfl ?_
 refine zE 2 [0, 2, 4, 7] ?_
 refine zY 1 [1, 4, 10, 13, 8, 16, 20, 22] ?_
 refine zK 4 ?_
 refine zIA 0 ?_
 refine go_val2a rfl (load_val (cs := [.bool is[j]]) Tk rfl rfl rfl (at_one zM (hc_is (by omega) (by show 0 + 16 + j * 1 = _; omega))) rfl) rfl ?_
 refine zR 3 ?_
 refine go_draw ([cl bt 0 [.bool true, .int .u32 (j : Int)]]) ([]) [2, 5] (SL.pre [(1, 0), (1, 1), (1, 3), (1, 4), (1, 6), (1, 7), (1, 8), (1, 11), (1, 12), (2, 2), (1, 9), (2, 5), (0, 10), (1, 13), (0, 14)] .nil) mixed rfl (by kernel_rfl) ?_
 refine zK 9 ?_
 refine zIA 0 ?_
 refine zK 0 ?_
 refine go_store Tk rfl rfl rfl rfl rfl rfl zM rfl rfl (hc_put_few (j := j) (by omega) (by show 0 + 0 + j * 1 = j; omega)) (fun _ => satS zM zM) ?_
 refine zIA 0 ?_
 refine go_store Tk rfl rfl rfl rfl rfl rfl zM rfl rfl (hc_put_is (j := j) (by omega) (by show 0 + 16 + j * 1 = _; rw [List.length_set]; omega)) zF ?_
 refine zR 1 ?_
 refine go_fold [pt b 68 (hc (few.set j n) (is.set j true) [.slice A1 (many).length c1, .slice A2 (by_).length c2]), ol tTm 37 A1 c1 (many), ol tU 23 A2 c2 (by_)] (heldO b (upd σ j n) (m + 1)) zM (fun _ _ q => heldO_mk (held_more (held_small hk hj n)) q) ?_
 refine zE 0 [2, 7, 8] ?_
 refine zG 5 42 ?_ ?_
 ·intro g1
  (try simp only [dcs, ne_eq] at g1)
  refine zT 6 rfl ⟨upd σ j n, congrArg Value.bool (st_new hj f1 f2 f3 g1).symm, fun _ => rfl, rfl, rfl⟩
 intro g1
 (try simp only [dcs, ne_eq] at g1)
 refine zT 6 rfl ⟨upd σ j n, congrArg Value.bool (st_old hj f1 f2 f3 g1).symm, fun _ => rfl, rfl, rfl⟩
theorem standsBig (b : Nat) (σ : Int → Option Int) (m : Nat) (x n : Int) (hx : 16 ≤ x) (hm : m ≤ 1000000) :
    Spec Try.prog 41 #[.pointer (some ⟨b, 0, none⟩), .agg #[.bool true, .int .u32 x], .int .u32 n] [] [heldO b σ m] (fun v Ps' Os' => ∃ σ', v = .bool (decide (σ x = none ∨ σ x = some n)) ∧ ((σ x = none ∨ σ x = some n) → σ' = upd σ x n) ∧ Ps' = [] ∧ Os' = [heldO b σ' (m + 1)]) := by
 refine zSp [.pointer (some ⟨b, 0, none⟩), .agg #[.bool true, .int .u32 x], .int .u32 n] Try.func41 Try.ntmps41 (fun w0 hp0 hf0 => ?_)
 refine zR 1 ?_
 refine go_held (b := b) zM (fun few is many by_ A1 c1 A2 c2 hk => ?_)
 have f1 := hk.l1
 have f2 := hk.l2
 have f4 := hk.l4
 have f5 := hk.l3
 have f3 := sig_big hk hx
 refine zX 1 ?_
 intro bt
 refine go_freeze_pt (b := bt) zM ?_
 refine zL 6 ?_
 refine zR 1 ?_
 refine go_re 12 (.bool false) (by show some (Value.bool (decide _)) = _; rw [decide_eq_false (by omega)]) ?_
 refine zDf 1 ?_
 refine zY 3 [1, 4, 7, 11, 14, 15, 19] ?_
 refine zR 3 ?_
 refine go_val2a rfl (load_val (cs := [.slice A1 many.length c1]) Tk rfl rfl rfl (at_one zM (hc_tail (j := 0) rfl (by show 0 + 32 = _; omega))) rfl) rfl ?_
 refine zK 0 ?_
 refine zC3 0 ((indexTm A1 c1 many ⟨true, x⟩).ownl (e := 37)) ?_
 refine zE 7 [0, 2, 4, 9, 54] ?_
 refine zD 0 ?_ ?_
 ·intro hc1
  obtain ⟨k, e1, e2, e3⟩ := idx_yes hc1
  refine go_re 9 (.int .i64 (k : Int)) (by show some (Value.int _ _) = _; rw [e2]) ?_
  refine go_ol_addr (xs := by_) zM (by omega) (fun b2 hA => ?_); subst hA
  refine zR 5 ?_
  refine go_val0 rfl (load_val (cs := [.slice (some ⟨b2, 0, none⟩) by_.length c2]) Tk rfl rfl rfl (at_one zM (hc_tail (j := 1) rfl (by show 0 + 33 = _; omega))) rfl) rfl ?_
  refine zI 1 ?_
  refine go_val0 rfl (load_val (cs := [.int .u32 by_[k]]) Tk rfl rfl rfl (at_ol (fun y : Int => [.int .u32 y]) fc_int 0 (xs := by_) zM (List.getElem?_eq_getElem (by omega)) rfl) rfl) rfl ?_
  refine zR 4 ?_
  refine go_fold [pt b 68 (hc (few) (is) [.slice A1 (many).length c1, .slice (some ⟨b2, 0, none⟩) (by_).length c2]), ol tTm 37 A1 c1 (many), ol tU 23 (some ⟨b2, 0, none⟩) c2 (by_)] (heldO b (σ) (m + 1)) zM (fun _ _ q => heldO_mk (held_more hk) q) ?_
  refine zE 0 [6] ?_
  refine zT 0 rfl ⟨σ, by rw [show σ x = some by_[k] by rw [← f3, e1]; simp [List.getElem?_eq_getElem (show k < by_.length by omega)]]; simp, fun hs => upd_same (hs.resolve_left (by rw [← f3, e1]; simp [List.getElem?_eq_getElem (show k < by_.length by omega)])), rfl, rfl⟩
 intro hc1
 have e1 := idx_no hc1
 refine zR 2 ?_
 refine go_draw ([cl bt 0 [.bool true, .int .u32 x]]) ([pt b 68 (hc few is [.slice A1 many.length c1, .slice A2 by_.length c2])]) [5, 6, 12] (SL.pre [(1, 0), (1, 1), (1, 2), (1, 3), (1, 4), (1, 9), (1, 10), (1, 11), (1, 13), (2, 5), (2, 6), (2, 12)] (.two (SL.pre [(0, 7)] (.two (SL.pre [(0, 8), (0, 14), (0, 15), (1, 16), (1, 17), (0, 18), (1, 19), (1, 20), (0, 21)] .nil) (SL.pre [(0, 14), (0, 8), (0, 15), (1, 16), (1, 17), (0, 18), (1, 19), (1, 20), (0, 21)] .nil))) (SL.pre [(0, 14), (0, 7), (0, 8), (0, 15), (1, 16), (1, 17), (0, 18), (1, 19), (1, 20), (0, 21)] .nil))) mixed rfl (by kernel_rfl) ?_
 refine zR 9 ?_
 refine go_val2a rfl (load_val (cs := [.slice A1 many.length c1]) Tk rfl rfl rfl (at_one zM (hc_tail (j := 0) rfl (by show 0 + 32 = _; omega))) rfl) rfl ?_
 refine zK 0 ?_
 refine go_val2a rfl (load_val (cs := [.slice A2 by_.length c2]) Tk rfl rfl rfl (at_one zM (hc_tail (j := 1) rfl (by show 0 + 33 = _; omega))) rfl) rfl ?_
 refine go_two ?_ ?_
 ·skip
  refine go_bslice Tk rfl rfl rfl rfl rfl rfl rfl rfl (fun _ _ => satA) ?_
  intro bm
  refine go_two ?_ ?_
  ·skip
   refine go_append1 (T := tTm) (xs := many) Tk (⟨true, x⟩ : Tm) rfl rfl rfl rfl rfl rfl rfl rfl rfl zM zM rfl ent_tm (by omega) (fun _ _ _ => satS zM zM) ?_
   intro A3 c3
   refine go_bslice Tk rfl rfl rfl rfl rfl rfl rfl rfl (fun _ _ => satA) ?_
   intro bb
   refine go_append1 (T := tU) (xs := by_) Tk n rfl rfl rfl rfl rfl rfl rfl rfl rfl zM zM rfl ent_int (by omega) (fun _ _ _ => satS zM zM) ?_
   intro A4 c4
   refine zR 2 ?_
   refine go_store Tk rfl rfl rfl rfl rfl rfl zM rfl rfl (hc_put_a (by show 0 + 32 = _; omega)) zQ ?_
   refine zR 2 ?_
   refine go_store Tk rfl rfl rfl rfl rfl rfl zM rfl rfl (hc_put_b (by show 0 + 33 = _; omega)) zQ ?_
   refine zR 1 ?_
   refine go_fold [pt b 68 (hc (few) (is) [.slice A3 (many ++ [(⟨true, x⟩ : Tm)]).length c3, .slice A4 (by_ ++ [n]).length c4]), ol tTm 37 A3 c3 (many ++ [(⟨true, x⟩ : Tm)]), ol tU 23 A4 c4 (by_ ++ [n])] (heldO b (upd σ x n) (m + 1)) zM (fun _ _ q => heldO_mk (held_new hk (by omega) e1 n) q) ?_
   refine zE 0 [] ?_
   refine zT 4 rfl ⟨upd σ x n, by rw [show σ x = none by rw [← f3, e1]; rfl]; simp, fun _ => rfl, rfl, rfl⟩
  refine go_bslice Tk rfl rfl rfl rfl rfl rfl rfl rfl (fun _ _ => satA) ?_
  intro bb
  refine go_append1 (T := tTm) (xs := many) Tk (⟨true, x⟩ : Tm) rfl rfl rfl rfl rfl rfl rfl rfl rfl zM zM rfl ent_tm (by omega) (fun _ _ _ => satS zM zM) ?_
  intro A3 c3
  refine go_append1 (T := tU) (xs := by_) Tk n rfl rfl rfl rfl rfl rfl rfl rfl rfl zM zM rfl ent_int (by omega) (fun _ _ _ => satS zM zM) ?_
  intro A4 c4
  refine zR 2 ?_
  refine go_store Tk rfl rfl rfl rfl rfl rfl zM rfl rfl (hc_put_a (by show 0 + 32 = _; omega)) zQ ?_
  refine zR 2 ?_
  refine go_store Tk rfl rfl rfl rfl rfl rfl zM rfl rfl (hc_put_b (by show 0 + 33 = _; omega)) zQ ?_
  refine zR 1 ?_
  refine go_fold [pt b 68 (hc (few) (is) [.slice A3 (many ++ [(⟨true, x⟩ : Tm)]).length c3, .slice A4 (by_ ++ [n]).length c4]), ol tTm 37 A3 c3 (many ++ [(⟨true, x⟩ : Tm)]), ol tU 23 A4 c4 (by_ ++ [n])] (heldO b (upd σ x n) (m + 1)) zM (fun _ _ q => heldO_mk (held_new hk (by omega) e1 n) q) ?_
  refine zE 0 [] ?_
  refine zT 4 rfl ⟨upd σ x n, by rw [show σ x = none by rw [← f3, e1]; rfl]; simp, fun _ => rfl, rfl, rfl⟩
 refine go_bslice Tk rfl rfl rfl rfl rfl rfl rfl rfl (fun _ _ => satA) ?_
 intro bb
 refine go_bslice Tk rfl rfl rfl rfl rfl rfl rfl rfl (fun _ _ => satA) ?_
 intro bm
 refine go_append1 (T := tTm) (xs := many) Tk (⟨true, x⟩ : Tm) rfl rfl rfl rfl rfl rfl rfl rfl rfl zM zM rfl ent_tm (by omega) (fun _ _ _ => satS zM zM) ?_
 intro A3 c3
 refine go_append1 (T := tU) (xs := by_) Tk n rfl rfl rfl rfl rfl rfl rfl rfl rfl zM zM rfl ent_int (by omega) (fun _ _ _ => satS zM zM) ?_
 intro A4 c4
 refine zR 2 ?_
 refine go_store Tk rfl rfl rfl rfl rfl rfl zM rfl rfl (hc_put_a (by show 0 + 32 = _; omega)) zQ ?_
 refine zR 2 ?_
 refine go_store Tk rfl rfl rfl rfl rfl rfl zM rfl rfl (hc_put_b (by show 0 + 33 = _; omega)) zQ ?_
 refine zR 1 ?_
 refine go_fold [pt b 68 (hc (few) (is) [.slice A3 (many ++ [(⟨true, x⟩ : Tm)]).length c3, .slice A4 (by_ ++ [n]).length c4]), ol tTm 37 A3 c3 (many ++ [(⟨true, x⟩ : Tm)]), ol tU 23 A4 c4 (by_ ++ [n])] (heldO b (upd σ x n) (m + 1)) zM (fun _ _ q => heldO_mk (held_new hk (by omega) e1 n) q) ?_
 refine zE 0 [] ?_
 refine zT 4 rfl ⟨upd σ x n, by rw [show σ x = none by rw [← f3, e1]; rfl]; simp, fun _ => rfl, rfl, rfl⟩
theorem stands (b : Nat) (σ : Int → Option Int) (m : Nat) (t : Tm) (n : Int) (hv : t.v = true) (h0 : 0 ≤ t.n) (hm : m ≤ 1000000) : Spec Try.prog 41 #[.pointer (some ⟨b, 0, none⟩), .agg #[.bool t.v, .int .u32 t.n], .int .u32 n] [] [heldO b σ m]
    (fun v Ps' Os' => ∃ σ', v = .bool (decide (σ t.n = none ∨ σ t.n = some n)) ∧ ((σ t.n = none ∨ σ t.n = some n) → σ' = upd σ t.n n) ∧ Ps' = [] ∧ Os' = [heldO b σ' (m + 1)]) := by
  obtain ⟨v, x⟩ := t
  simp only at hv h0 ⊢
  subst hv
  by_cases hx : 16 ≤ x
  · exact standsBig b σ m x n hx hm
  · obtain ⟨j, rfl⟩ := Int.eq_ofNat_of_zero_le h0
    exact standsSmall b σ m j n (by omega)
theorem atomsMatch (a : Am) (AA : Option Addr) (ac : Nat) (f : Fa) (FA : Option Addr) (fc : Nat) (ha : ∀ t ∈ a.a, 0 ≤ t.n) (hn : a.a.length ≤ 1000000) :
    Spec Try.prog 32 #[.agg #[.int .u32 a.p, .slice AA a.a.length ac], .agg #[.int .u32 f.p, .slice FA f.a.length fc]] [sl tTm AA ac a.a, sl tU FA fc f.a] [] (fun v Ps' Os' => v = .bool (mtch a f) ∧ Ps' = [] ∧ Os' = []) := by
 refine zSp [.agg #[.int .u32 a.p, .slice AA a.a.length ac], .agg #[.int .u32 f.p, .slice FA f.a.length fc]] Try.func32 Try.ntmps32 (fun w0 hp0 hf0 => ?_)
 refine zX 2 ?_
 intro b1
 refine zX 0 ?_
 intro b2
 refine zR 4 ?_
 refine go_len (xs := a.a) zM (fun la ma => ?_)
 refine go_len (xs := f.a) zM (fun lf mf => ?_)
 refine zL 2 ?_
 refine zL 1 ?_
 refine zG 2 14 ?_ ?_
 ·intro g1
  (try simp only [dcs, ne_eq] at g1)
  refine zE 9 [2, 3, 22] ?_
  refine zDt 0 ?_
  refine zT 4 rfl ⟨by rw [mtch_no (fun h _ => g1 h)], rfl, rfl⟩
 intro g1
 (try simp only [dcs, ne_eq] at g1)
 refine zL 1 ?_
 refine zL 2 ?_
 refine zE 4 [2, 3, 22] ?_
 refine zB 0 ?_ ?_
 ·intro g2
  (try simp only [dcs, ne_eq] at g2)
  refine zT 4 rfl ⟨by rw [mtch_no (fun _ h => g2 (by exact_mod_cast h))], rfl, rfl⟩
 intro g2
 (try simp only [dcs, ne_eq] at g2)
 refine zR 2 ?_
 have hl : a.a.length = f.a.length := by omega
 refine zW 1 ?_
 intro bh
 refine go_own_nil tTm 37 none ?_
 refine go_own_nil tU 23 none ?_
 refine go_fold [pt bh 68 (hc (List.replicate 16 0) (List.replicate 16 false) [.slice none 0 0, .slice none 0 0]), ol tTm 37 none 0 [], ol tU 23 none 0 []] (heldO bh (fun _ => none) 0) zM (fun _ _ q => heldO_mk held_zero q) ?_
 refine zL 5 ?_
 refine zR 4 ?_
 refine go_loop' (X := Nat × (Int → Option Int)) (fun x => [(26, .int .i64 (x.1 : Int))]) [(3, _), (5, _), (24, _), (25, _)] (fun x => [heldO bh x.2 x.1]) (fun x => x.1 ≤ a.a.length ∧ inv x.2 a.a f.a x.1) (fun x => a.a.length - x.1) ((0, fun _ => none)) zA zM ⟨by omega, inv_zero _ _⟩ ?_
 intro ⟨k, σ⟩ ⟨hk, hi⟩
 simp only at hk hi ⊢
 refine zD' 5 ?_ ?_
 ·intro c1
  refine zT 5 rfl ⟨by rw [mtch_yes g1 hl (by rw [show a.a.length = k by omega] at *; exact hi)], rfl, rfl⟩
 intro c1
 refine zR 4 ?_
 refine go_elem_tm (xs := a.a) zM (k) (List.getElem?_eq_getElem (by omega)) (fun b5 o5 hA => ?_); cases hA
 refine zI 2 ?_
 refine zL 0 ?_
 refine zW 0 ?_
 intro b3
 refine zS 1 ?_
 refine zR 7 ?_
 refine go_elem_int (xs := f.a) zM (k) (List.getElem?_eq_getElem (by omega)) (fun b6 o6 hA => ?_); cases hA
 refine zY 0 [4, 10, 2, 8, 13, 17, 18] ?_
 refine zK 2 ?_
 refine zK 0 ?_
 refine zI 0 ?_
 refine zK 0 ?_
 refine zC3 0 (atomsKind a.a[k] f.a[k]) ?_
 refine zR 9 ?_
 by_cases hv : a.a[k].v = true
 ·skip
  refine go_re 37 (.int .i64 2) (by show some (Value.int _ _) = _; rw [hv]; rfl) ?_
  refine zR 2 ?_
  refine go_re 39 (.bool true) rfl ?_
  refine zDt 2 ?_
  refine zY 2 [4, 10, 2, 8, 13, 17, 18, 22] ?_
  refine zK 2 ?_
  refine zK 0 ?_
  refine zI 0 ?_
  refine zK 0 ?_
  refine zC 0 (stands bh σ k a.a[k] f.a[k] hv (ha _ (List.getElem_mem _)) (by omega)) ?_
  rintro _ _ _ ⟨σ', rfl, hσ, rfl, rfl⟩
  refine zE 2 [3, 5, 24, 25, 26, 49] ?_
  refine zB 0 ?_ ?_
  ·intro c2
   (try simp only [dcs, ne_eq] at c2)
   simp only [not_or] at c2
   refine zT 4 rfl ⟨by rw [mtch_var_no hi (by omega) (by omega) hv (ha _ (List.getElem_mem _)) (by simpa using c2)], rfl, rfl⟩
  intro c2
  (try simp only [dcs, ne_eq] at c2)
  have c2 : σ a.a[k].n = none ∨ σ a.a[k].n = some f.a[k] := by simpa using c2
  rw [hσ c2]
  refine zDf 12 ?_
  refine zR 6 ?_
  refine go_i64 26 rfl (by omega) (by omega) ?_
  refine zz (k + 1, upd σ a.a[k].n f.a[k]) ⟨by show k + 1 ≤ _; omega, inv_var hi (by omega) (by omega) hv (ha _ (List.getElem_mem _)) c2⟩ (by show a.a.length - (k + 1) < a.a.length - k; omega)
 ·skip
  have hv : a.a[k].v = false := by simpa using hv
  refine go_re 37 (.int .i64 (if a.a[k].n = f.a[k] then 1 else 0)) (by show some (Value.int _ _) = _; rw [hv]; rfl) ?_
  refine zR 2 ?_
  refine go_re 39 (.bool false) (by show some (Value.bool _) = _; split <;> rfl) ?_
  refine zDf 2 ?_
  refine zR 2 ?_
  by_cases hs : a.a[k].n = f.a[k]
  ·skip
   refine go_re 37 (.int .i64 1) (by show some (Value.int _ _) = _; rw [if_pos hs]) ?_
   refine zR 2 ?_
   refine go_re 41 (.bool true) rfl ?_
   refine zE 2 [3, 5, 8, 24, 25, 26, 40] ?_
   refine zDt 0 ?_
   refine zDf 11 ?_
   refine zR 6 ?_
   refine go_i64 26 rfl (by omega) (by omega) ?_
   refine go_imp (heldO bh σ k) [heldO bh σ (k + 1)] zM (fun _ _ q => sep_one (heldO_more q)) ?_
   refine zz (k + 1, σ) ⟨by show k + 1 ≤ _; omega, inv_sym hi (by omega) (by omega) hv hs⟩ (by show a.a.length - (k + 1) < a.a.length - k; omega)
  ·skip
   refine go_re 37 (.int .i64 0) (by show some (Value.int _ _) = _; rw [if_neg hs]) ?_
   refine zR 2 ?_
   refine go_re 41 (.bool false) rfl ?_
   refine zE 2 [3, 5, 8, 24, 25, 26, 40] ?_
   refine zDf 0 ?_
   refine zDt 7 ?_
   refine zT 4 rfl ⟨by rw [mtch_sym_no (by omega) (by omega) hv hs], rfl, rfl⟩
theorem refMatch (a : Am) (AA : Option Addr) (ac : Nat) (f : Fa) (FA : Option Addr) (fc : Nat) :
    Spec Try.prog 17 #[.agg #[.int .u32 a.p, .slice AA a.a.length ac], .agg #[.int .u32 f.p, .slice FA f.a.length fc]] [sl tTm AA ac a.a, sl tU FA fc f.a] [] (fun v Ps' Os' => v = .bool (mtch a f) ∧ Ps' = [] ∧ Os' = []) := by
 refine zSp [.agg #[.int .u32 a.p, .slice AA a.a.length ac], .agg #[.int .u32 f.p, .slice FA f.a.length fc]] Try.func17 Try.ntmps17 (fun w0 hp0 hf0 => ?_)
 refine zX 2 ?_
 intro b1
 refine zX 0 ?_
 intro b2
 refine zR 4 ?_
 refine go_len (xs := a.a) zM (fun la ma => ?_)
 refine go_len (xs := f.a) zM (fun lf mf => ?_)
 refine zL 2 ?_
 refine zL 1 ?_
 refine zG 2 12 ?_ ?_
 ·intro g1
  (try simp only [dcs, ne_eq] at g1)
  refine zE 9 [2, 3, 20] ?_
  refine zDt 0 ?_
  refine zT 4 rfl ⟨by rw [mtch_no (fun h _ => g1 h)], rfl, rfl⟩
 intro g1
 (try simp only [dcs, ne_eq] at g1)
 refine zL 1 ?_
 refine zL 2 ?_
 refine zE 4 [2, 3, 20] ?_
 refine zB 0 ?_ ?_
 ·intro g2
  (try simp only [dcs, ne_eq] at g2)
  refine zT 4 rfl ⟨by rw [mtch_no (fun _ h => g2 (by exact_mod_cast h))], rfl, rfl⟩
 intro g2
 (try simp only [dcs, ne_eq] at g2)
 refine zR 3 ?_
 have hl : a.a.length = f.a.length := by omega
 refine zR 4 ?_
 refine zO (X := Nat) (fun i => [(5, .int .i64 (i : Int))]) [2, 3] (fun _ => []) (fun i => i ≤ f.a.length ∧ pairs a.a f.a i) (fun i => f.a.length - i) 0 ⟨by omega, fun k t n hk => by omega⟩ ?_
 intro i ⟨hi, hp⟩
 refine zL 5 ?_
 refine zD' 3 ?_ ?_
 ·intro c1
  refine zT 5 rfl ⟨by first | rw [mtch_sym_no (a := a) (f := f) (i := i) (by omega) (by omega) hv h1] | rw [mtch_pair_no (a := a) (f := f) (i := i) (j := j) (by omega) (by omega) (by omega) h2 (by simpa using h3) h4] | rw [mtch_pairs g1 hl (by rw [show a.a.length = i by omega]; exact hp)], rfl, rfl⟩
 intro c1
 refine zR 5 ?_
 refine go_elem_tm (xs := a.a) zM (i) (List.getElem?_eq_getElem (by omega)) (fun b5 o5 hA => ?_); cases hA
 refine go_elem_int (xs := f.a) zM (i) (List.getElem?_eq_getElem (by omega)) (fun b6 o6 hA => ?_); cases hA
 refine zY 0 [1, 7, 5, 10, 13, 17, 19, 22, 25, 31, 43, 49, 29, 34, 37, 41, 47, 52, 56, 58, 61] ?_
 refine zK 2 ?_
 refine zI 0 ?_
 refine zK 1 ?_
 refine zG' 2 35 ?_ ?_
 ·intro hv
  (try simp only [dcs, ne_eq] at hv)
  refine zJ 4 ?_
  refine zJ 2 ?_
  refine zJ 0 ?_
  refine zJ 1 ?_
  refine zE 3 [2, 3, 5, 36, 37, 38, 39, 40, 41, 42, 43, 44, 45, 46, 47, 48] ?_
  refine zDf 0 ?_
  refine zR 2 ?_
  have hs : a.a[i].v = false → a.a[i].n = f.a[i] := by intro h; first | exact h1 | (exfalso; simp_all)
  refine zR 4 ?_
  refine zO (X := Nat) (fun j => [(6, .int .i64 (j : Int))]) [2, 3, 5, 36, 37, 38, 39, 40, 41, 42, 43, 44, 45, 46, 47] (fun _ => []) (fun j => j ≤ i ∧ ∀ k (hk : k < j) (hki : k < i), a.a[i].v = true → a.a[i] = a.a[k] → f.a[k] = f.a[i]) (fun j => i - j) 0 ⟨by omega, fun k hk => by omega⟩ ?_
  intro j ⟨hj, hq⟩
  refine zD' 7 ?_ ?_
  ·intro c3
   refine zR 7 ?_
   refine go_i64 5 rfl (by omega) (by omega) ?_
   refine zz (i + 1) ⟨by omega, pairs_next hp (by omega) (by omega) hs (fun j hj => hq j (by omega) hj)⟩ (by omega)
  intro c3
  refine zR 4 ?_
  refine go_elem_tm (xs := a.a) zM (i) (List.getElem?_eq_getElem (by omega)) (fun b7 o7 hA => ?_); cases hA
  refine go_elem_tm (xs := a.a) zM (j) (List.getElem?_eq_getElem (by omega)) (fun b8 o8 hA => ?_); cases hA
  refine go_elem_int (xs := f.a) zM (i) (List.getElem?_eq_getElem (by omega)) (fun b9 o9 hA => ?_); cases hA
  refine go_elem_int (xs := f.a) zM (j) (List.getElem?_eq_getElem (by omega)) (fun b10 o10 hA => ?_); cases hA
  refine zY 0 [1, 7, 5, 10, 13, 17, 19, 22, 28, 37, 43, 26, 31, 35, 41, 46, 50, 52, 55, 58, 61, 67, 76, 82, 65, 70, 74, 80, 85, 89, 91, 94] ?_
  refine zK 2 ?_
  refine zI 0 ?_
  refine zK 1 ?_
  refine zG' 1 60 ?_ ?_
  ·intro h2
   (try simp only [dcs, ne_eq] at h2)
   refine zJ 4 ?_
   refine zJ 1 ?_
   refine zJ 0 ?_
   refine zJ 1 ?_
   refine zJ 7 ?_
   refine zJ 1 ?_
   refine zJ 0 ?_
   refine zJ 1 ?_
   refine zE 3 [2, 3, 5, 6, 36, 37, 38, 39, 40, 41, 42, 43, 44, 45, 46, 47, 61, 62, 63, 64, 65, 66, 67, 68, 69, 70, 71, 74, 75, 76, 77, 78, 79, 80, 81, 82, 83, 84, 85] ?_
   refine zDf 0 ?_
   refine zR 7 ?_
   refine go_i64 6 rfl (by omega) (by omega) ?_
   refine zz (j + 1) ⟨by omega, fun k hk hki => by
     rcases Nat.lt_or_ge k j with q | q
     · exact hq k q hki
     · obtain rfl : k = j := by omega
       intro q1 q2; first | exact h4 | (exfalso; simp_all)⟩ (by omega)
  intro h2
  (try simp only [dcs, ne_eq] at h2)
  refine zK 4 ?_
  refine zI 0 ?_
  refine zK 0 ?_
  refine zK 0 ?_
  refine zI 0 ?_
  refine zK 0 ?_
  refine go_val1 rfl (seq_val Tk rfl rfl rfl rfl (by rfl) rfl (by kernel_rfl) (by kernel_rfl)) rfl ?_
  refine go_re 71 (.bool (decide (a.a[i] = a.a[j]))) (by show some (Value.bool _) = _; rw [tm_eq]) ?_
  refine zG' 2 73 ?_ ?_
  ·intro h3
   (try simp only [dcs, ne_eq] at h3)
   refine zJ 4 ?_
   refine zJ 1 ?_
   refine zJ 0 ?_
   refine zJ 1 ?_
   refine zE 3 [2, 3, 5, 6, 36, 37, 38, 39, 40, 41, 42, 43, 44, 45, 46, 47, 61, 62, 63, 64, 65, 66, 67, 68, 69, 70, 71, 74, 75, 76, 77, 78, 79, 80, 81, 82, 83, 84, 85] ?_
   refine zDf 0 ?_
   refine zR 7 ?_
   refine go_i64 6 rfl (by omega) (by omega) ?_
   refine zz (j + 1) ⟨by omega, fun k hk hki => by
     rcases Nat.lt_or_ge k j with q | q
     · exact hq k q hki
     · obtain rfl : k = j := by omega
       intro q1 q2; first | exact h4 | (exfalso; simp_all)⟩ (by omega)
  intro h3
  (try simp only [dcs, ne_eq] at h3)
  refine zK 4 ?_
  refine zI 0 ?_
  refine zK 0 ?_
  refine zK 0 ?_
  refine zI 0 ?_
  refine zK 0 ?_
  refine zE 3 [2, 3, 5, 6, 36, 37, 38, 39, 40, 41, 42, 43, 44, 45, 46, 47, 61, 62, 63, 64, 65, 66, 67, 68, 69, 70, 71, 74, 75, 76, 77, 78, 79, 80, 81, 82, 83, 84, 85] ?_
  refine zB 0 ?_ ?_
  ·intro h4
   (try simp only [dcs, ne_eq] at h4)
   refine zE 4 [4] ?_
   refine zT 0 rfl ⟨by first | rw [mtch_sym_no (a := a) (f := f) (i := i) (by omega) (by omega) hv h1] | rw [mtch_pair_no (a := a) (f := f) (i := i) (j := j) (by omega) (by omega) (by omega) h2 (by simpa using h3) h4] | rw [mtch_pairs g1 hl (by rw [show a.a.length = i by omega]; exact hp)], rfl, rfl⟩
  intro h4
  (try simp only [dcs, ne_eq] at h4)
  refine zR 7 ?_
  refine go_i64 6 rfl (by omega) (by omega) ?_
  refine zz (j + 1) ⟨by omega, fun k hk hki => by
    rcases Nat.lt_or_ge k j with q | q
    · exact hq k q hki
    · obtain rfl : k = j := by omega
      intro q1 q2; first | exact h4 | (exfalso; simp_all)⟩ (by omega)
 intro hv
 (try simp only [dcs, ne_eq] at hv)
 refine zK 4 ?_
 refine zI 0 ?_
 refine zK 1 ?_
 refine zK 0 ?_
 refine zI 0 ?_
 refine zK 0 ?_
 refine zE 3 [2, 3, 5, 36, 37, 38, 39, 40, 41, 42, 43, 44, 45, 46, 47, 48] ?_
 refine zB 0 ?_ ?_
 ·intro h1
  (try simp only [dcs, ne_eq] at h1)
  refine zE 4 [4] ?_
  refine zT 0 rfl ⟨by first | rw [mtch_sym_no (a := a) (f := f) (i := i) (by omega) (by omega) hv h1] | rw [mtch_pair_no (a := a) (f := f) (i := i) (j := j) (by omega) (by omega) (by omega) h2 (by simpa using h3) h4] | rw [mtch_pairs g1 hl (by rw [show a.a.length = i by omega]; exact hp)], rfl, rfl⟩
 intro h1
 (try simp only [dcs, ne_eq] at h1)
 refine zR 2 ?_
 have hs : a.a[i].v = false → a.a[i].n = f.a[i] := by intro h; first | exact h1 | (exfalso; simp_all)
 refine zR 4 ?_
 refine zO (X := Nat) (fun j => [(6, .int .i64 (j : Int))]) [2, 3, 5, 36, 37, 38, 39, 40, 41, 42, 43, 44, 45, 46, 47] (fun _ => []) (fun j => j ≤ i ∧ ∀ k (hk : k < j) (hki : k < i), a.a[i].v = true → a.a[i] = a.a[k] → f.a[k] = f.a[i]) (fun j => i - j) 0 ⟨by omega, fun k hk => by omega⟩ ?_
 intro j ⟨hj, hq⟩
 refine zD' 7 ?_ ?_
 ·intro c2
  refine zR 7 ?_
  refine go_i64 5 rfl (by omega) (by omega) ?_
  refine zz (i + 1) ⟨by omega, pairs_next hp (by omega) (by omega) hs (fun j hj => hq j (by omega) hj)⟩ (by omega)
 intro c2
 refine zR 4 ?_
 refine go_elem_tm (xs := a.a) zM (i) (List.getElem?_eq_getElem (by omega)) (fun b7 o7 hA => ?_); cases hA
 refine go_elem_tm (xs := a.a) zM (j) (List.getElem?_eq_getElem (by omega)) (fun b8 o8 hA => ?_); cases hA
 refine go_elem_int (xs := f.a) zM (i) (List.getElem?_eq_getElem (by omega)) (fun b9 o9 hA => ?_); cases hA
 refine go_elem_int (xs := f.a) zM (j) (List.getElem?_eq_getElem (by omega)) (fun b10 o10 hA => ?_); cases hA
 refine zY 0 [1, 7, 5, 10, 13, 17, 19, 22, 28, 37, 43, 26, 31, 35, 41, 46, 50, 52, 55, 58, 61, 67, 76, 82, 65, 70, 74, 80, 85, 89, 91, 94] ?_
 refine zK 2 ?_
 refine zI 0 ?_
 refine zK 1 ?_
 refine zG' 1 60 ?_ ?_
 ·intro h2
  (try simp only [dcs, ne_eq] at h2)
  refine zJ 4 ?_
  refine zJ 1 ?_
  refine zJ 0 ?_
  refine zJ 1 ?_
  refine zJ 7 ?_
  refine zJ 1 ?_
  refine zJ 0 ?_
  refine zJ 1 ?_
  refine zE 3 [2, 3, 5, 6, 36, 37, 38, 39, 40, 41, 42, 43, 44, 45, 46, 47, 61, 62, 63, 64, 65, 66, 67, 68, 69, 70, 71, 74, 75, 76, 77, 78, 79, 80, 81, 82, 83, 84, 85] ?_
  refine zDf 0 ?_
  refine zR 7 ?_
  refine go_i64 6 rfl (by omega) (by omega) ?_
  refine zz (j + 1) ⟨by omega, fun k hk hki => by
    rcases Nat.lt_or_ge k j with q | q
    · exact hq k q hki
    · obtain rfl : k = j := by omega
      intro q1 q2; first | exact h4 | (exfalso; simp_all)⟩ (by omega)
 intro h2
 (try simp only [dcs, ne_eq] at h2)
 refine zK 4 ?_
 refine zI 0 ?_
 refine zK 0 ?_
 refine zK 0 ?_
 refine zI 0 ?_
 refine zK 0 ?_
 refine go_val1 rfl (seq_val Tk rfl rfl rfl rfl (by rfl) rfl (by kernel_rfl) (by kernel_rfl)) rfl ?_
 refine go_re 71 (.bool (decide (a.a[i] = a.a[j]))) (by show some (Value.bool _) = _; rw [tm_eq]) ?_
 refine zG' 2 73 ?_ ?_
 ·intro h3
  (try simp only [dcs, ne_eq] at h3)
  refine zJ 4 ?_
  refine zJ 1 ?_
  refine zJ 0 ?_
  refine zJ 1 ?_
  refine zE 3 [2, 3, 5, 6, 36, 37, 38, 39, 40, 41, 42, 43, 44, 45, 46, 47, 61, 62, 63, 64, 65, 66, 67, 68, 69, 70, 71, 74, 75, 76, 77, 78, 79, 80, 81, 82, 83, 84, 85] ?_
  refine zDf 0 ?_
  refine zR 7 ?_
  refine go_i64 6 rfl (by omega) (by omega) ?_
  refine zz (j + 1) ⟨by omega, fun k hk hki => by
    rcases Nat.lt_or_ge k j with q | q
    · exact hq k q hki
    · obtain rfl : k = j := by omega
      intro q1 q2; first | exact h4 | (exfalso; simp_all)⟩ (by omega)
 intro h3
 (try simp only [dcs, ne_eq] at h3)
 refine zK 4 ?_
 refine zI 0 ?_
 refine zK 0 ?_
 refine zK 0 ?_
 refine zI 0 ?_
 refine zK 0 ?_
 refine zE 3 [2, 3, 5, 6, 36, 37, 38, 39, 40, 41, 42, 43, 44, 45, 46, 47, 61, 62, 63, 64, 65, 66, 67, 68, 69, 70, 71, 74, 75, 76, 77, 78, 79, 80, 81, 82, 83, 84, 85] ?_
 refine zB 0 ?_ ?_
 ·intro h4
  (try simp only [dcs, ne_eq] at h4)
  refine zE 4 [4] ?_
  refine zT 0 rfl ⟨by first | rw [mtch_sym_no (a := a) (f := f) (i := i) (by omega) (by omega) hv h1] | rw [mtch_pair_no (a := a) (f := f) (i := i) (j := j) (by omega) (by omega) (by omega) h2 (by simpa using h3) h4] | rw [mtch_pairs g1 hl (by rw [show a.a.length = i by omega]; exact hp)], rfl, rfl⟩
 intro h4
 (try simp only [dcs, ne_eq] at h4)
 refine zR 7 ?_
 refine go_i64 6 rfl (by omega) (by omega) ?_
 refine zz (j + 1) ⟨by omega, fun k hk hki => by
   rcases Nat.lt_or_ge k j with q | q
   · exact hq k q hki
   · obtain rfl : k = j := by omega
     intro q1 q2; first | exact h4 | (exfalso; simp_all)⟩ (by omega)
theorem refBig (a : Am) (AA : Option Addr) (ac : Nat) :
    Spec Try.prog 13 #[.agg #[.int .u32 a.p, .slice AA a.a.length ac]] [sl tTm AA ac a.a] [] (fun v Ps' Os' => v = .bool (decide (100 < a.a.length)) ∧ Ps' = [] ∧ Os' = []) := by
 refine zSp [.agg #[.int .u32 a.p, .slice AA a.a.length ac]] Try.func13 Try.ntmps13 (fun w0 hp0 hf0 => ?_)
 refine zX 2 ?_
 intro b1
 refine zR 3 ?_
 refine go_len (xs := a.a) zM (fun l0 m0 => ?_)
 refine zL 2 ?_
 refine zT 4 rfl ⟨congrArg Value.bool (by rw [decide_eq_decide]; omega), rfl, rfl⟩
theorem refLift (q : Fa) (QA : Option Addr) (qc : Nat) (hm : q.a.length ≤ 100000) :
    Spec Try.prog 15 #[.agg #[.int .u32 q.p, .slice QA q.a.length qc]] [sl tU QA qc q.a] [] (fun v Ps' Os' => ∃ A' c', v = .agg #[.int .u32 (lift q).p, .slice A' (lift q).a.length c'] ∧ Ps' = [sl tTm A' c' (lift q).a] ∧ Os' = []) := by
 refine zSp [.agg #[.int .u32 q.p, .slice QA q.a.length qc]] Try.func15 Try.ntmps15 (fun w0 hp0 hf0 => ?_)
 refine zX 2 ?_
 intro bq
 refine go_freeze_pt (b := bq) zM ?_
 refine zW 0 ?_
 intro br
 refine zR 2 ?_
 refine go_len (xs := q.a) zM (fun l0 m0 => ?_)
 refine zL 2 ?_
 refine zq 0 ?_
 refine zW 0 ?_
 intro ba
 refine zS 0 ?_
 refine zR 5 ?_
 refine go_own_nil tTm 37 none ?_
 refine zR 2 ?_
 refine zO (X := Nat × Option Addr × Nat) (fun x => [(4, .int .i64 (x.1 : Int))]) [1, 2, 3] (fun x => [pt ba 26 [.int .u32 q.p, .slice x.2.1 ((lift q).a.take x.1).length x.2.2], ol tTm 37 x.2.1 x.2.2 ((lift q).a.take x.1)]) (fun x => x.1 ≤ q.a.length) (fun x => q.a.length - x.1) (0, none, 0) (by omega) ?_
 intro ⟨k, A1, c1⟩ hk
 simp only at hk ⊢
 refine zL 5 ?_
 refine zD' 3 ?_ ?_
 ·intro hq1
  refine zR 2 ?_
  rw [List.take_of_length_le (show (lift q).a.length ≤ k by rw [lift_len]; omega)]
  refine go_freeze_ol (xs := (lift q).a) zM ?_
  refine zL 1 ?_
  refine zS 0 ?_
  refine zR 1 ?_
  refine go_ret ⟨rfl, rfl⟩ _ _ (res1 (by rfl) (.cell rfl (rdv Tk rfl))) ⟨A1, c1, rfl, rfl, rfl⟩ zM zM
 intro hq1
 refine zR 3 ?_
 refine go_elem_int (xs := q.a) zM (k) (List.getElem?_eq_getElem (by omega)) (fun b5 o5 hA => ?_); cases hA
 refine go_draw ([cl bq 0 [.int .u32 q.p, .slice (some ⟨b5, o5, none⟩) q.a.length qc], cl b5 (o5 + k * 1) [.int .u32 q.a[k]]]) ([pt ba 26 [.int .u32 q.p, .slice A1 ((lift q).a.take k).length c1]]) [1, 3, 6] (SL.pre [(1, 0), (1, 2), (1, 4), (2, 1), (2, 3), (1, 5), (2, 6), (1, 7), (0, 8), (0, 9), (1, 10), (0, 11)] .nil) mixed rfl (by kernel_rfl) ?_
 refine zK 3 ?_
 refine zK 0 ?_
 refine zI 0 ?_
 refine zK 0 ?_
 refine go_val1 rfl (fun a w hp ho hf hs => build_val Tk rfl rfl rfl (by rfl) a w hf) rfl ?_
 refine go_bslice Tk rfl rfl rfl rfl rfl rfl rfl rfl (fun _ _ => satA) ?_
 intro bn
 refine go_append1 (T := tTm) (xs := (lift q).a.take k) Tk (⟨false, q.a[k]⟩) rfl rfl rfl rfl rfl rfl rfl rfl rfl zM zM rfl ent_tm (by rw [List.length_take]; omega) zH ?_
 intro A3 c3
 refine zS 1 ?_
 refine zE 1 [1, 2, 3, 4] ?_
 refine zR 6 ?_
 rw [lift_next (by omega)]
 refine go_i64 4 rfl (by omega) (by omega) ?_
 refine go_back (k + 1, _, _) zA zM zM (by show k + 1 ≤ _; omega) (by show q.a.length - (k + 1) < q.a.length - k; omega)
end Go.Proofs.Ytmomkfedcmogmaa.SL
namespace Go.Proofs.Ytmomkfedcmogmaa.SL
section
variable {C : Ctx} {k : List It} {E : Env} {Ps : List PA} {Os : List OA}
end
theorem Sl.over {h h' : Heap} {A : Option Addr} {c : Nat} {xs : List Int} (s : Sl tU h A c xs) (hc : ∀ b i v, cellH h b i = some (.int .u32 v) → ∃ v', cellH h' b i = some (.int .u32 v')) : ∃ ys : List Int, ys.length = xs.length ∧ Sl tU h' A c ys := by
  obtain ⟨s1, s2, s3, s4⟩ := s
  have key : ∀ n, n ≤ xs.length → ∃ ys : List Int, ys.length = n ∧ ∀ j x, ys[j]? = some x → ∃ b o cs, A = some ⟨b, o, none⟩ ∧ tU.rep h' x cs ∧ ∀ i v, cs[i]? = some v → cellH h' b (o + (j * tU.size + i)) = some v := by
    intro n
    induction n with
    | zero => exact fun _ => ⟨[], rfl, fun j x hj => by simp at hj⟩
    | succ n ih =>
      intro hn
      obtain ⟨ys, h1, h2⟩ := ih (by omega)
      obtain ⟨b, o, cs, e, r, hcs⟩ := s4 n _ (List.getElem?_eq_getElem (by omega))
      have r' : cs = [.int .u32 xs[n]] := r
      subst r'
      obtain ⟨v', hv'⟩ := hc _ _ _ (hcs 0 _ rfl)
      refine ⟨ys ++ [v'], by simp [h1], fun j x hj => ?_⟩
      rw [List.getElem?_append] at hj
      split at hj
      · exact h2 j x hj
      · rename_i hlt
        have : j = n := by
          rcases Nat.lt_or_ge j (n + 1) with q | q
          · omega
          · rw [List.getElem?_eq_none (by simp; omega)] at hj; cases hj
        subst this
        simp [h1] at hj
        subst hj
        exact ⟨b, o, _, e, rfl, fun i v hi => by
          cases i with
          | zero => simp at hi; subst hi; exact hv'
          | succ i => simp at hi⟩
  obtain ⟨ys, h1, h2⟩ := key xs.length (Nat.le_refl _)
  exact ⟨ys, h1, by rw [h1]; exact s1, s2, s3, h2⟩
theorem Reps.over {h h' : Heap} (hc : ∀ b i v, cellH h b i = some (.int .u32 v) → ∃ v', cellH h' b i = some (.int .u32 v')) : ∀ {xs : List Fa} {cs : List Value}, Reps tFa h xs cs → ∃ ys : List Fa, ys.length = xs.length ∧ Reps tFa h' ys cs
  | [], cs, r => ⟨[], rfl, r⟩
  | x :: xs, _, ⟨a, b, e, r, s⟩ => by
    obtain ⟨A, c, rfl, sx⟩ := tFa_open r
    obtain ⟨ys, h1, h2⟩ := Reps.over hc s
    obtain ⟨zs, h3, h4⟩ := sx.over hc
    exact ⟨⟨x.p, zs⟩ :: ys, by simp [h1], _, _, e, by rw [← h3]; exact tFa_mk (x := ⟨x.p, zs⟩) h4, h2⟩
section
variable {C : Ctx} {k : List It} {E : Env} {Ps : List PA} {Os : List OA}
variable {o : Oper} {ops : Array Oper} {S : World → Prop} {r : Pl} {f : Bool}
end
structure St where
  c : Bool
  f : Fa
def St.ok (x : St) : Prop := x.f.ok
structure Small (s : List Fa) (n : Nat) : Prop where
  r : rises s
  n : s.length ≤ n
  b : ∀ x ∈ s, x.a.length ≤ 20
theorem Small.mono {s : List Fa} {n m : Nat} (h : Small s n) (hm : n ≤ m) : Small s m := ⟨h.r, Nat.le_trans h.n hm, h.b⟩
theorem Small.fof {l : List Fa} (h1 : l.length ≤ 300) (h2 : ∀ x ∈ l, x.a.length ≤ 20) : Small (SL.fof l) 300 := ⟨rises_fof l, Nat.le_trans (fof_len l) h1, fun x hx => h2 x (mem_fof.1 hx)⟩
structure Fy where
  f : Fa
  A : Option Addr
  c : Nat
def fcY (x : Fy) : List Value := [.int .u32 x.f.p, .slice x.A x.f.a.length x.c]
def tFy : Ty Fy := ⟨2, fun h x cs => cs = fcY x ∧ Sl tU h x.A x.c x.f.a, fun ⟨e, _⟩ => by subst e; rfl, fun ⟨e, _⟩ => by subst e; rfl, fun hl ⟨e, s⟩ => ⟨e, s.up hl⟩⟩
theorem fcY_eq : ∀ (h : Heap) (x : Fy) (cs : List Value), tFy.rep h x cs → cs = fcY x := fun _ _ _ h => h.1
theorem Reps.toY {h : Heap} : ∀ {l : List Fa} {cs : List Value}, Reps tFa h l cs → ∃ xs : List Fy, xs.map (fun x : Fy => x.f) = l ∧ Reps tFy h xs cs
  | [], cs, e => ⟨[], rfl, e⟩
  | x :: l, _, ⟨a, b, e, r, s⟩ => by
    obtain ⟨A, c, rfl, sx⟩ := tFa_open r
    obtain ⟨xs, h1, h2⟩ := Reps.toY s
    exact ⟨⟨x, A, c⟩ :: xs, by simp [h1], _, _, e, ⟨rfl, sx⟩, h2⟩
theorem Reps.ofY {h : Heap} : ∀ {xs : List Fy} {cs : List Value}, Reps tFy h xs cs → Reps tFa h (xs.map fun x : Fy => x.f) cs
  | [], _, e => e
  | x :: xs, _, ⟨a, b, e, ⟨r, sx⟩, s⟩ => ⟨a, b, e, by rw [r]; exact tFa_mk sx, s.ofY⟩
section
variable {C : Ctx} {k : List It} {E : Env} {Ps : List PA} {Os : List OA}
theorem go_toY {e : Nat} {A : Option Addr} {c : Nat} {l : List Fa} {rr : List OA} (h : Rem (ol tFa e A c l) Os rr) (g : ∀ xs : List Fy, xs.map (fun x : Fy => x.f) = l → xs.length = l.length → Go C k E Ps (ol tFy e A c xs :: rr)) : Go C k E Ps Os := fun a w hp ho hf hs hb => by
  obtain ⟨g1, g2, i, b, d, ⟨cs, r, s⟩, sp⟩ := Sep.rem h hs.os
  obtain ⟨xs, h1, h2⟩ := s.toY
  have hl : xs.length = l.length := by rw [← h1]; simp
  exact g xs h1 hl a w hp ho hf ⟨hs.inp, hs.ino, hs.dj, hs.ps, g1, g2, i, b, d, ⟨cs, by rw [hl]; exact r, h2⟩, sp⟩ hb
theorem go_ofY {e : Nat} {A : Option Addr} {c : Nat} {xs : List Fy} {rr : List OA} (h : Rem (ol tFy e A c xs) Os rr) (g : Go C k E Ps (ol tFa e A c (xs.map fun x : Fy => x.f) :: rr)) : Go C k E Ps Os := fun a w hp ho hf hs hb => by
  obtain ⟨g1, g2, i, b, d, ⟨cs, r, s⟩, sp⟩ := Sep.rem h hs.os
  exact g a w hp ho hf ⟨hs.inp, hs.ino, hs.dj, hs.ps, g1, g2, i, b, d, ⟨cs, by rw [List.length_map]; exact r, s.ofY⟩, sp⟩ hb
theorem go_atY {e : Nat} {A : Option Addr} {c : Nat} {xs : List Fy} {rr : List OA} (h : Rem (ol tFy e A c xs) Os rr) (j : Nat) {x : Fy} (hj : xs[j]? = some x) (g : Go C k E (sl tU x.A x.c x.f.a :: Ps) Os) : Go C k E Ps Os := fun a w hp ho hf hs hb => by
  obtain ⟨g1, g2, i, b, d, ⟨cs, r, s⟩, sp⟩ := Sep.rem h hs.os
  obtain ⟨ds, ⟨_, h1⟩, _⟩ := s.at j x hj
  exact g a w hp ho hf (hs.addp (q := sl tU x.A x.c x.f.a) h1) hb
theorem ent_Y {x : Fy} (h : sl tU x.A x.c x.f.a ∈ Ps) : Ent Ps (rp tFy x (fcY x)) := fun hp a => ⟨rfl, a _ h⟩
end
theorem getF {xs : List Fy} {l : List Fa} (h : xs.map (fun x : Fy => x.f) = l) {j : Nat} (hj : j < xs.length) (hj' : j < l.length) : xs[j].f = l[j] := by subst h; simp
theorem set_mid {α : Type} {l : List α} {n : Nat} {w z : α} (hn : n ≤ l.length) : (l.take n ++ w :: l.drop n).set n z = l.take n ++ z :: l.drop n := by
  rw [List.set_append_right _ _ (by simp; omega)]
  simp [Nat.min_eq_left hn]
theorem mid_back {α : Type} {l : List α} {n : Nat} (h0 : 0 < n) (hn : n - 1 < l.length) : l.take n ++ l[n - 1] :: l.drop n = l.take (n - 1) ++ l[n - 1] :: l.drop (n - 1) := by
  have h1 : l.take n = l.take (n - 1) ++ [l[n - 1]] := by
    have := List.take_succ_eq_append_getElem hn
    rwa [show n - 1 + 1 = n by omega] at this
  have h2 : l.drop (n - 1) = l[n - 1] :: l.drop n := by rw [List.drop_eq_getElem_cons hn, show n - 1 + 1 = n by omega]
  conv => lhs; rw [h1]
  rw [h2, List.append_assoc]; rfl
theorem mid_get {α : Type} {l : List α} {n j : Nat} {w : α} (hn : n ≤ l.length) (hj : j < n) : (l.take n ++ w :: l.drop n)[j]? = some (l[j]'(by omega)) := by
  rw [List.getElem?_append_left (by simp; omega), List.getElem?_take, if_pos hj, List.getElem?_eq_getElem (by omega)]
theorem mid_len {α : Type} {l : List α} {n : Nat} {w : α} (hn : n ≤ l.length) : (l.take n ++ w :: l.drop n).length = l.length + 1 := by simp; omega
theorem fput_at {l : List Fa} {q : Fa} (hq : ¬ q ∈ l) (hr : rises l) {n : Nat} (hn : n ≤ l.length) (h1 : ∀ x ∈ l.drop n, 0 < cF x q) (h2 : ∀ (h : 0 < n), ¬ 0 < cF (l[n - 1]'(by omega)) q) : l.take n ++ q :: l.drop n = fput l q := by
  have : at_ l q = n := by
    refine at_of hn ?_ (fun x hx c => by have := h1 x hx; omega)
    rcases Nat.eq_zero_or_pos n with rfl | h0
    · intro x hx; simp at hx
    · have h3 : cF (l[n - 1]'(by omega)) q < 0 := by
        have := h2 h0
        have h4 : cF (l[n - 1]'(by omega)) q ≠ 0 := fun e => hq (by rw [← cF_zero.1 e]; exact List.getElem_mem _)
        omega
      have := rises_take hr (k := n - 1) (by omega) h3
      rwa [show n - 1 + 1 = n by omega] at this
  rw [fput_no hq, this]
def dd : List Fa → List Fa
  | [] => []
  | [x] => [x]
  | x :: y :: l => if x = y then dd (y :: l) else x :: dd (y :: l)
theorem dd_snoc : ∀ (l : List Fa) (a b : Fa), dd (l ++ [a, b]) = if a = b then dd (l ++ [a]) else dd (l ++ [a]) ++ [b]
  | [], a, b => by
    by_cases h : a = b <;> simp [dd, h]
  | [x], a, b => by
    by_cases h : a = b
    · subst h; by_cases g : x = a <;> simp [dd, g]
    · by_cases g : x = a <;> simp [dd, g, h]
  | x :: y :: l, a, b => by
    have := dd_snoc (y :: l) a b
    simp only [List.cons_append] at this ⊢
    by_cases g : x = y
    · simp only [dd, g, if_true]; exact this
    · simp only [dd, g, if_false, this]; split <;> rfl
theorem dd_next {l : List Fa} {k : Nat} (h0 : 0 < k) (hk : k < l.length) : dd (l.take (k + 1)) = if l[k - 1] = l[k] then dd (l.take k) else dd (l.take k) ++ [l[k]] := by
  have h1 : l.take k = l.take (k - 1) ++ [l[k - 1]] := by
    have := List.take_succ_eq_append_getElem (l := l) (i := k - 1) (by omega)
    rwa [show k - 1 + 1 = k by omega] at this
  rw [List.take_succ_eq_append_getElem hk, h1, List.append_assoc]
  exact dd_snoc _ _ _
theorem dd_mem : ∀ {l : List Fa} {x : Fa}, x ∈ dd l ↔ x ∈ l
  | [], x => by simp [dd]
  | [y], x => by simp [dd]
  | y :: z :: l, x => by
    unfold dd
    split
    · rename_i e; subst e; rw [dd_mem (l := y :: l)]; simp
    · rw [List.mem_cons, dd_mem (l := z :: l), List.mem_cons (a := x) (b := y)]
theorem dd_rises : ∀ {l : List Fa}, l.Pairwise (fun x y => ¬ cF y x < 0) → rises (dd l)
  | [], _ => .nil
  | [x], _ => by unfold rises dd; simp
  | x :: y :: l, h => by
    rw [List.pairwise_cons] at h
    unfold dd
    split
    · exact dd_rises h.2
    · rename_i hne
      unfold rises
      rw [List.pairwise_cons]
      refine ⟨fun z hz => ?_, dd_rises h.2⟩
      have hz' : z ∈ y :: l := dd_mem.1 hz
      have h1 : ¬ cF z x < 0 := h.1 z hz'
      have h2 : ¬ cF y x < 0 := h.1 y (.head _)
      have h3 : cF x y < 0 := by
        rcases cF_range x y with e | e | e
        · omega
        · exact absurd (cF_zero.1 e) hne
        · rw [cF_swap] at e; omega
      rcases List.mem_cons.1 hz' with rfl | hz2
      · exact h3
      · have h4 : ¬ cF z y < 0 := (List.pairwise_cons.1 h.2).1 z hz2
        rcases cF_range y z with e | e | e
        · exact cF_trans h3 (by omega)
        · rw [← cF_zero.1 e]; exact h3
        · rw [cF_swap] at e; omega
theorem dd_sorted {l m : List Fa} (hp : l.Perm m) (hs : m.Pairwise fun x y => ¬ cF y x < 0) : dd m = fof l :=
  rises_ext (dd_rises hs) (rises_fof l) fun x => by rw [dd_mem, mem_fof]; exact hp.symm.mem_iff
def idxF (p : Fa → Bool) (l : List Fa) : Int := match l.findIdx? p with | some j => (j : Int) | none => -1
theorem idxF_hit {p : Fa → Bool} {l : List Fa} {k : Nat} (hk : k < l.length) (hz : ∀ y ∈ l.take k, p y = false) (e : p l[k] = true) : l.findIdx? p = some k := by
  rw [List.findIdx?_eq_some_iff_getElem]
  refine ⟨hk, e, fun j hj => ?_⟩
  have := hz l[j] (List.mem_take_iff_getElem.2 ⟨j, by omega, rfl⟩)
  simp [this]
theorem idxF_none {p : Fa → Bool} {l : List Fa} (hz : ∀ y ∈ l, p y = false) : l.findIdx? p = none := by
  rw [List.findIdx?_eq_none_iff]
  intro y hy; simpa using hz y hy
theorem idxF_any (p : Fa → Bool) (l : List Fa) : l.any p = decide (0 ≤ idxF p l) := by
  unfold idxF
  cases e : l.findIdx? p with
  | none =>
    rw [List.findIdx?_eq_none_iff] at e
    have : l.any p = false := by rw [List.any_eq_false]; intro x hx; simpa using e x hx
    rw [this]; rfl
  | some j =>
    rw [List.findIdx?_eq_some_iff_getElem] at e
    obtain ⟨hj, h, _⟩ := e
    have : l.any p = true := List.any_eq_true.2 ⟨_, List.getElem_mem hj, h⟩
    rw [this]; simp
theorem any_mem (y : Fa) (l : List Fa) : decide (y ∈ l) = l.any (fun x => decide (x = y)) := by
  rw [Bool.eq_iff_iff, decide_eq_true_iff, List.any_eq_true]
  constructor
  · intro h; exact ⟨y, h, by simp⟩
  · rintro ⟨x, h, e⟩; rw [decide_eq_true_iff] at e; exact e ▸ h
theorem dd_short {l : List Fa} (h : l.length < 2) : dd l = l := by
  match l, h with
  | [], _ => rfl
  | [x], _ => rfl
theorem dd_keep {l : List Fa} {k : Nat} (h0 : 1 ≤ k) (hk : k < l.length) (hz : dd (l.take k) = l.take k) (hne : ¬ l[k] = l[k - 1]) : dd (l.take (k + 1)) = l.take (k + 1) := by
  rw [dd_next (by omega) hk, if_neg (fun e => hne e.symm), hz, List.take_succ_eq_append_getElem hk]
structure Cmp (l : List Fa) (xs ys : List Fy) (k m i : Nat) : Prop where
  len : ys.length = l.length
  lo : k ≤ m
  hi : m + 1 ≤ k + i
  i1 : 1 ≤ i
  i2 : i ≤ l.length - k
  kept : (ys.take m).map (fun x : Fy => x.f) = dd (l.take (k + i))
  rest : ys.drop (k + i - 1) = xs.drop (k + i - 1)
theorem Cmp.start {l : List Fa} {xs : List Fy} {k : Nat} (hx : xs.map (fun x : Fy => x.f) = l) (h0 : 1 ≤ k) (hk : k < l.length) (hz : dd (l.take k) = l.take k) (he : l[k] = l[k - 1]) : Cmp l xs xs k k 1 :=
  ⟨by rw [← hx]; simp, Nat.le_refl _, Nat.le_refl _, Nat.le_refl _, by omega, by rw [dd_next (by omega) hk, if_pos he.symm, hz, ← hx, List.map_take], rfl⟩
theorem Cmp.get {l : List Fa} {xs ys : List Fy} {k m i : Nat} (hx : xs.map (fun x : Fy => x.f) = l) (h : Cmp l xs ys k m i) {j : Nat} (hj : k + i - 1 ≤ j) (hl : j < ys.length) (hl2 : j < l.length) : ys[j].f = l[j] := by
  have hxl : xs.length = l.length := by rw [← hx]; simp
  have e : ys[j]? = xs[j]? := by
    have h1 : (ys.drop (k + i - 1))[j - (k + i - 1)]? = (xs.drop (k + i - 1))[j - (k + i - 1)]? := by rw [h.rest]
    rw [List.getElem?_drop, List.getElem?_drop, show k + i - 1 + (j - (k + i - 1)) = j by omega] at h1
    exact h1
  rw [List.getElem?_eq_getElem hl, List.getElem?_eq_getElem (by omega)] at e
  rw [Option.some.inj e]
  exact getF hx (by omega) hl2
theorem Cmp.skip {l : List Fa} {xs ys : List Fy} {k m i : Nat} (h : Cmp l xs ys k m i) (hi : k + i < l.length) (he : l[k + i] = l[k + i - 1]) : Cmp l xs ys k m (i + 1) :=
  ⟨h.len, h.lo, by have := h.hi; omega, by omega, by omega, by rw [h.kept, show k + (i + 1) = k + i + 1 by omega, dd_next (by have := h.i1; omega) hi, if_pos he.symm], by
    have h1 := congrArg (List.drop 1) h.rest
    have := h.i1
    rw [List.drop_drop, List.drop_drop, show k + i - 1 + 1 = k + (i + 1) - 1 by omega] at h1
    exact h1⟩
theorem Cmp.keep {l : List Fa} {xs ys : List Fy} {k m i : Nat} (hx : xs.map (fun x : Fy => x.f) = l) (h : Cmp l xs ys k m i) (hi : k + i < l.length) (hl : k + i < ys.length) (he : ¬ l[k + i] = l[k + i - 1]) : Cmp l xs (ys.set m ys[k + i]) k (m + 1) (i + 1) :=
  ⟨by rw [List.length_set]; exact h.len, by have := h.lo; omega, by have := h.hi; omega, by omega, by omega, by
    have h1 := h.hi
    have h2 := h.get hx (j := k + i) (by omega) hl hi
    rw [show k + (i + 1) = k + i + 1 by omega, dd_next (by have := h.i1; omega) hi, if_neg (fun e => he e.symm), List.take_succ_eq_append_getElem (by rw [List.length_set]; omega), List.map_append, List.take_set_of_le (Nat.le_refl _), h.kept]
    simp [h2], by
    have h1 := congrArg (List.drop 1) h.rest
    have h3 := h.hi
    have := h.i1
    rw [List.drop_drop, List.drop_drop, show k + i - 1 + 1 = k + (i + 1) - 1 by omega] at h1
    rw [List.drop_set_of_lt (by omega)]
    exact h1⟩
theorem Cmp.done {l : List Fa} {xs ys : List Fy} {k m i : Nat} (h : Cmp l xs ys k m i) (hi : l.length ≤ k + i) : (ys.take m).map (fun x : Fy => x.f) = dd l := by rw [h.kept, List.take_of_length_le hi]
theorem not_next {l : List Fa} {q : Fa} {k : Nat} (hk : k < l.length) (h : ¬ q ∈ l.take k) (g : ¬ cmpF l[k].p l[k].a q.p q.a = 0) : ¬ q ∈ l.take (k + 1) := by
  rw [List.take_succ_eq_append_getElem hk, List.mem_append, List.mem_singleton]
  rintro (c | c)
  · exact h c
  · exact g (cmpF_zero.2 c.symm)
theorem split_last {l : List Fa} {q : Fa} {ys : List Fy} (h : ys.map (fun x : Fy => x.f) = l ++ [q]) : ∃ xs w, ys = xs ++ [w] ∧ xs.map (fun x : Fy => x.f) = l ∧ w.f = q := by
  have hl : ys.length = l.length + 1 := by have := congrArg List.length h; simpa using this
  have e : ys = ys.take l.length ++ [ys[l.length]] := by rw [← List.take_succ_eq_append_getElem (by omega), List.take_of_length_le (by omega)]
  refine ⟨_, _, e, ?_⟩
  rw [e, List.map_append] at h
  have := List.append_inj' h (by simp)
  exact ⟨this.1, by simpa using this.2⟩
theorem drop_more {l : List Fa} {q : Fa} {n : Nat} (h0 : 0 < n) (hn : n - 1 < l.length) (hz : ∀ y ∈ l.drop n, 0 < cF y q) (h : 0 < cF l[n - 1] q) : ∀ y ∈ l.drop (n - 1), 0 < cF y q := by
  rw [List.drop_eq_getElem_cons hn, show n - 1 + 1 = n by omega]
  intro y hy
  rcases List.mem_cons.1 hy with rfl | hy
  · exact h
  · exact hz y hy
theorem mid_map {l : List Fa} {xs : List Fy} {n : Nat} {w : Fy} (hx : xs.map (fun x : Fy => x.f) = l) : (xs.take n ++ w :: xs.drop n).map (fun x : Fy => x.f) = l.take n ++ w.f :: l.drop n := by
  subst hx; simp
end Go.Proofs.Ytmomkfedcmogmaa.SL
namespace Go.Proofs.Ytmomkfedcmogmaa.SL
open Go
def SoSpec (g : FuncId) (cap : Array Value) (p : Fa → Bool) (PsS : List PA) : Prop :=
  ∀ (x : Fa) (A : Option Addr) (c : Nat), Spec Try.prog g (Value.agg #[.int .u32 x.p, .slice A x.a.length c] :: cap.toList).toArray (sl tU A c x.a :: PsS) [] (fun v Ps' Os' => v = .bool (p x) ∧ Ps' = [] ∧ Os' = [])
theorem is1 (bq : Nat) (y : Fa) (B : Option Addr) (d : Nat) (x : Fa) (A : Option Addr) (c : Nat) :
    Spec Try.prog 31 #[.agg #[.int .u32 x.p, .slice A x.a.length c], .pointer (some ⟨bq, 0, none⟩)] [sl tU A c x.a, PA.all [cl bq 0 [.int .u32 y.p, .slice B y.a.length d], sl tU B d y.a]] [] (fun v Ps' Os' => v = .bool (decide (x = y)) ∧ Ps' = [] ∧ Os' = []) := by
 refine zSp [.agg #[.int .u32 x.p, .slice A x.a.length c], .pointer (some ⟨bq, 0, none⟩)] Try.func31 Try.ntmps31 (fun w0 hp0 hf0 => ?_)
 refine zX 2 ?_
 intro b1
 refine zR 3 ?_
 refine go_pall (l := [_, _]) zM ?_
 refine zL 1 ?_
 refine zL 0 ?_
 refine zC3 0 (atomsCompare _ _ _ _ _ _ _ _) ?_
 refine zT 3 rfl ⟨congrArg Value.bool (by rw [decide_eq_decide]; exact (cmpF_zero (x := y) (q := x)).trans eq_comm), rfl, rfl⟩
theorem indexFa (L : Option Addr) (lc : Nat) (l : List Fa) (g : FuncId) (cap : Array Value) (p : Fa → Bool) (PS : PA) (hso : SoSpec g cap p [PS]) :
    Spec Try.prog 39 #[.slice L l.length lc, .func (.func g) #[] cap] [sl tFa L lc l, PS] [] (fun v Ps' Os' => v = .int .i64 (idxF p l) ∧ Ps' = [] ∧ Os' = []) := by
 refine zSp [.slice L l.length lc, .func (.func g) #[] cap] Try.func39 Try.ntmps39 (fun w0 hp0 hf0 => ?_)
 refine zR 1 ?_
 refine go_len (xs := l) zM (fun l0 m0 => ?_)
 refine zR 11 ?_
 refine zO (X := Nat) (fun k => [(8, .int .i64 (k : Int))]) [0, 1, 7] (fun _ => []) (fun k => k ≤ l.length ∧ ∀ y ∈ l.take k, p y = false) (fun k => l.length - k) 0 ⟨by omega, by simp⟩ ?_
 intro k ⟨hk, hz⟩
 refine zD' 5 ?_ ?_
 ·intro hq1
  refine zT 5 rfl ⟨by unfold idxF; rw [idxF_none (by rw [List.take_of_length_le (by omega)] at hz; exact hz)], rfl, rfl⟩
 intro hq1
 refine zR 9 ?_
 refine go_elem_fa (xs := l) zM (k) (List.getElem?_eq_getElem (by omega)) (fun b0 o0 A0 c0 hA => ?_); cases hA
 refine zI 4 ?_
 refine zL 0 ?_
 refine zC3 0 (hso l[k] A0 c0) ?_
 refine zB 1 ?_ ?_
 ·intro g1
  (try simp only [dcs, ne_eq] at g1)
  refine zE 5 [4] ?_
  refine zT 0 rfl ⟨by unfold idxF; rw [idxF_hit (by omega) hz g1], rfl, rfl⟩
 intro g1
 (try simp only [dcs, ne_eq] at g1)
 refine zR 6 ?_
 refine go_i64 8 rfl (by omega) (by omega) ?_
 refine zz (k + 1) (⟨by omega, mem_take_next' (by omega) hz g1⟩) (by omega)
theorem containsFa (L : Option Addr) (lc : Nat) (l : List Fa) (g : FuncId) (cap : Array Value) (p : Fa → Bool) (PS : PA) (hso : SoSpec g cap p [PS]) :
    Spec Try.prog 30 #[.slice L l.length lc, .func (.func g) #[] cap] [sl tFa L lc l, PS] [] (fun v Ps' Os' => v = .bool (l.any p) ∧ Ps' = [] ∧ Os' = []) := by
 refine zSp [.slice L l.length lc, .func (.func g) #[] cap] Try.func30 Try.ntmps30 (fun w0 hp0 hf0 => ?_)
 refine zC3 8 (indexFa L lc l g cap p PS hso) ?_
 refine zT 3 rfl ⟨congrArg Value.bool (idxF_any p l).symm, rfl, rfl⟩
theorem queryIs (L : Option Addr) (lc : Nat) (l : List Fa) (y : Fa) (B : Option Addr) (d : Nat) :
    Spec Try.prog 11 #[.slice L l.length lc, .agg #[.int .u32 y.p, .slice B y.a.length d]] [sl tFa L lc l, sl tU B d y.a] [] (fun v Ps' Os' => v = .bool (decide (y ∈ l)) ∧ Ps' = [] ∧ Os' = []) := by
 refine zSp [.slice L l.length lc, .agg #[.int .u32 y.p, .slice B y.a.length d]] Try.func11 Try.ntmps11 (fun w0 hp0 hf0 => ?_)
 refine zX 2 ?_
 intro bq
 refine go_freeze_pt (b := bq) zM ?_
 refine go_mkall [cl bq 0 [.int .u32 y.p, .slice B y.a.length d], sl tU B d y.a] zM ?_
 refine zC3 6 (containsFa L lc l 31 #[.pointer (some ⟨bq, 0, none⟩)] (fun x => decide (x = y)) (PA.all [cl bq 0 [.int .u32 y.p, .slice B y.a.length d], sl tU B d y.a]) (fun x A c => is1 bq y B d x A c)) ?_
 refine zT 2 rfl ⟨congrArg Value.bool (any_mem y l).symm, rfl, rfl⟩
theorem ask2 (x : Fa) (A : Option Addr) (c : Nat) (y : Fa) (B : Option Addr) (d : Nat) :
    Spec Try.prog 28 #[.agg #[.int .u32 x.p, .slice A x.a.length c], .agg #[.int .u32 y.p, .slice B y.a.length d]] [sl tU A c x.a, sl tU B d y.a] [] (fun v Ps' Os' => v = .bool (decide (x = y)) ∧ Ps' = [] ∧ Os' = []) := by
 refine zSp [.agg #[.int .u32 x.p, .slice A x.a.length c], .agg #[.int .u32 y.p, .slice B y.a.length d]] Try.func28 Try.ntmps28 (fun w0 hp0 hf0 => ?_)
 refine zX 2 ?_
 intro b1
 refine zX 0 ?_
 intro b2
 refine zL 4 ?_
 refine zL 0 ?_
 refine zC3 0 (atomsCompare _ _ _ _ _ _ _ _) ?_
 refine zT 3 rfl ⟨congrArg Value.bool (by rw [decide_eq_decide]; exact cmpF_zero), rfl, rfl⟩
theorem compactFa (L : Option Addr) (lc : Nat) (l : List Fa) (hn : l.length ≤ 1000000) :
    Spec Try.prog 27 #[.slice L l.length lc, .func (.func 28) #[] #[]] [] [ol tFa 29 L lc l] (fun v Ps' Os' => v = .slice L (dd l).length lc ∧ Ps' = [] ∧ Os' = [ol tFa 29 L lc (dd l)]) := by
 refine zSp [.slice L l.length lc, .func (.func 28) #[] #[]] Try.func27 Try.ntmps27 (fun w0 hp0 hf0 => ?_)
 refine zR 1 ?_
 refine go_len_ol (xs := l) zM (fun l0 m0 => ?_)
 refine zD 10 ?_ ?_
 ·intro h1
  refine zR 5 ?_
  refine go_ret ⟨rfl, rfl⟩ [] [ol tFa 29 L lc l] (res1 (by rfl) (.tmp rfl)) ⟨by rw [dd_short (by omega)], rfl, by rw [dd_short (by omega)]⟩ zM zM
 intro h1
 refine go_ol_addr (xs := l) zM (by omega) (fun bL hL => ?_); subst hL
 refine go_toY (l := l) zM (fun xs hx hxl => ?_)
 refine zR 7 ?_
 refine zO (X := Nat) (fun k => [(5, .int .i64 (k : Int))]) [0, 1] (fun _ => []) (fun k => k ≤ l.length ∧ 1 ≤ k ∧ dd (l.take k) = l.take k) (fun k => l.length - k) 1 ⟨by omega, by omega, dd_short (by rw [List.length_take]; omega)⟩ ?_
 intro k ⟨hk, hk1, hz⟩
 refine zD' 8 ?_ ?_
 ·intro hq1
  refine zR 2 ?_
  rw [List.take_of_length_le (show l.length ≤ k by omega)] at hz
  refine go_ofY (xs := xs) zM ?_
  rw [hx]
  refine zR 4 ?_
  refine go_ret ⟨rfl, rfl⟩ [] [ol tFa 29 (some ⟨bL, 0, none⟩) lc l] (res1 (by rfl) (.tmp rfl)) ⟨by rw [hz], rfl, by rw [hz]⟩ zM zM
 intro hq1
 refine zR 4 ?_
 refine go_atY (xs := xs) zM k (List.getElem?_eq_getElem (by omega)) ?_
 refine go_atY (xs := xs) zM (k - 1) (List.getElem?_eq_getElem (by omega)) ?_
 refine zY 0 [1, 4, 7, 10, 16, 19, 22, 25, 14, 29, 30] ?_
 refine zI 3 ?_
 refine zR 3 ?_
 refine go_i64 25 rfl (by omega) (by omega) ?_
 refine go_re 25 (.int .i64 ((k - 1 : Nat) : Int)) (by show some (Value.int _ _) = _; rw [show ((k - 1 : Nat) : Int) = (k : Int) - 1 by omega]) ?_
 refine zI 0 ?_
 refine go_val2a rfl (load_val Tk rfl rfl rfl (at_olp fcY fcY_eq (xs := xs) zM (k) (List.getElem?_eq_getElem (by omega)) rfl rfl) rfl) rfl ?_
 refine go_val2a rfl (load_val Tk rfl rfl rfl (at_olp fcY fcY_eq (xs := xs) zM (k - 1) (List.getElem?_eq_getElem (by omega)) rfl rfl) rfl) rfl ?_
 refine zC3 0 (ask2 xs[k].f xs[k].A xs[k].c xs[k - 1].f xs[k - 1].A xs[k - 1].c) ?_
 refine zE 1 [0, 1, 5, 28] ?_
 refine zB' 0 ?_ ?_
 ·intro g0
  (try simp only [dcs, ne_eq] at g0)
  have g1 : ¬ l[k] = l[k - 1] := by rw [← getF hx (show k < xs.length by omega), ← getF hx (show k - 1 < xs.length by omega)]; exact g0
  refine zR 7 ?_
  refine go_i64 5 rfl (by omega) (by omega) ?_
  refine zz (k + 1) (⟨by omega, by omega, dd_keep hk1 (by omega) hz g1⟩) (by omega)
 intro g0
 (try simp only [dcs, ne_eq] at g0)
 have g1 : l[k] = l[k - 1] := by rw [← getF hx (show k < xs.length by omega), ← getF hx (show k - 1 < xs.length by omega)]; exact g0
 refine zR 4 ?_
 refine go_val0 rfl (slice_val' Tk rfl rfl rfl rfl k l.length lc (.slice (some ⟨bL, 0 + k * 2, none⟩) (l.length - k) (lc - k)) (by first | rfl | exact ⟨_, rfl⟩ | exact ⟨rfl, rfl⟩) (by first | rfl | exact ⟨_, rfl⟩ | exact ⟨rfl, rfl⟩) (by first | rfl | exact ⟨_, rfl⟩ | exact ⟨rfl, rfl⟩) (by omega) (by omega) (by omega) (by rw [subN (by omega)]; rfl)) rfl ?_
 refine zR 8 ?_
 refine zO (X := Nat × Nat × List Fy) (fun x => [(5, .int .i64 (x.1 : Int)), (7, .int .i64 (x.2.1 : Int))]) [0, 1, 6] (fun x => [ol tFy 29 (some ⟨bL, 0, none⟩) lc x.2.2]) (fun x => Cmp l xs x.2.2 k x.1 x.2.1) (fun x => l.length - x.2.1) (k, 1, xs) (Cmp.start hx hk1 (by omega) hz g1) ?_
 intro ⟨m, i, ys⟩ hC
 simp only at hC ⊢
 have hC1 := hC.len
 have hC2 := hC.lo
 have hC3 := hC.hi
 have hC4 := hC.i1
 have hC5 := hC.i2
 refine zD' 8 ?_ ?_
 ·intro hq2
  refine zR 2 ?_
  have hfin := hC.done (by omega)
  have hml : m = (dd l).length := by rw [← hfin]; simp; omega
  refine go_ol_open (xs := ys) zM (by omega) (fun b0 cs cur hA h1 h2 h3 h4 h5 => ?_); cases hA
  have hms : m * tFy.size ≤ l.length * tFy.size := Nat.mul_le_mul_right _ (by omega)
  have hms2 : m * tFy.size ≤ ys.length * tFy.size := Nat.mul_le_mul_right _ (by omega)
  have hmc : l.length * tFy.size ≤ lc * tFy.size := Nat.mul_le_mul_right _ (by omega)
  refine zR 3 ?_
  refine go_val0 rfl (slice_val' Tk rfl rfl rfl rfl m l.length lc (.slice (some ⟨bL, 0 + m * tFy.size, none⟩) (l.length - m) (lc - m)) (by first | rfl | exact ⟨_, rfl⟩ | exact ⟨rfl, rfl⟩) (by first | rfl | exact ⟨_, rfl⟩ | exact ⟨rfl, rfl⟩) (by first | rfl | exact ⟨_, rfl⟩ | exact ⟨rfl, rfl⟩) (by omega) (by omega) (by omega) (by rw [subN (by omega)]; rfl)) rfl ?_
  refine go_clear Tk rfl rfl rfl rfl rfl rfl rfl rfl zM (by show 0 + m * tFy.size + (l.length - m) * tFy.size ≤ _; rw [Nat.sub_mul]; omega) zF ?_
  intro zs hzs
  have hzs2 : 0 + m * tFy.size + zs.length ≤ cur.length := by rw [hzs]; show 0 + m * tFy.size + (l.length - m) * tFy.size ≤ _; rw [Nat.sub_mul]; omega
  refine go_rps (cs.take (m * tFy.size)) (xs := ys) zM (fun _ q => q.head (m := m) (by omega)) ?_
  refine go_ol_close (ys.take m) zM zM (by rw [putS_len hzs2]; exact h1) (by rw [List.length_take, Nat.min_eq_left (by omega), putS_low hzs2 (by omega), ← h2, List.take_take, Nat.min_eq_left (by omega)]) (by rw [List.length_take]; omega) h4 ?_
  refine go_ofY (xs := ys.take m) zM ?_
  rw [hfin]
  refine zR 5 ?_
  refine go_val0 rfl (slice_val' Tk rfl rfl rfl rfl 0 m lc (.slice (some ⟨bL, 0, none⟩) (dd l).length lc) (by first | rfl | exact ⟨_, rfl⟩ | exact ⟨rfl, rfl⟩) (by first | rfl | exact ⟨_, rfl⟩ | exact ⟨rfl, rfl⟩) (by first | rfl | exact ⟨_, rfl⟩ | exact ⟨rfl, rfl⟩) (by omega) (by omega) (by omega) (by rw [sub0, hml]; rfl)) rfl ?_
  refine zE 2 [4] ?_
  refine zT 0 rfl ⟨rfl, rfl, rfl⟩
 intro hq2
 refine zR 4 ?_
 refine go_atY (xs := ys) zM (k + i) (List.getElem?_eq_getElem (by omega)) ?_
 refine go_atY (xs := ys) zM (k + i - 1) (List.getElem?_eq_getElem (by omega)) ?_
 refine zY 0 [1, 4, 7, 10, 16, 19, 22, 25, 14, 29, 30, 34] ?_
 refine zI 3 ?_
 refine zR 3 ?_
 refine go_i64 45 rfl (by omega) (by omega) ?_
 refine go_re 45 (.int .i64 ((i - 1 : Nat) : Int)) (by show some (Value.int _ _) = _; rw [show ((i - 1 : Nat) : Int) = (i : Int) - 1 by omega]) ?_
 refine zI 0 ?_
 refine go_val2a rfl (load_val Tk rfl rfl rfl (at_olp fcY fcY_eq (xs := ys) zM (k + i) (List.getElem?_eq_getElem (by omega)) (by show 0 + k * 2 + i * 2 = 0 + (k + i) * 2; omega) rfl) rfl) rfl ?_
 refine go_val2a rfl (load_val Tk rfl rfl rfl (at_olp fcY fcY_eq (xs := ys) zM (k + i - 1) (List.getElem?_eq_getElem (by omega)) (by show 0 + k * 2 + (i - 1) * 2 = 0 + (k + i - 1) * 2; omega) rfl) rfl) rfl ?_
 refine zC3 0 (ask2 ys[k + i].f ys[k + i].A ys[k + i].c ys[k + i - 1].f ys[k + i - 1].A ys[k + i - 1].c) ?_
 refine zE 2 [0, 1, 5, 6, 7, 49] ?_
 refine zB' 0 ?_ ?_
 ·intro g2
  (try simp only [dcs, ne_eq] at g2)
  have g3 : l[k + i] = l[k + i - 1] := by rw [← hC.get hx (j := k + i) (by omega) (by omega), ← hC.get hx (j := k + i - 1) (by omega) (by omega)]; exact g2
  refine zR 7 ?_
  refine go_i64 7 rfl (by omega) (by omega) ?_
  refine zz (m, i + 1, ys) (hC.skip (by omega) g3) (by show l.length - (i + 1) < l.length - i; omega)
 intro g2
 (try simp only [dcs, ne_eq] at g2)
 have g3 : ¬ l[k + i] = l[k + i - 1] := by rw [← hC.get hx (j := k + i) (by omega) (by omega), ← hC.get hx (j := k + i - 1) (by omega) (by omega)]; exact g2
 refine zI 6 ?_
 refine go_val0 rfl (load_val Tk rfl rfl rfl (at_olp fcY fcY_eq (xs := ys) zM (k + i) (List.getElem?_eq_getElem (by omega)) (by show 0 + k * 2 + i * 2 = 0 + (k + i) * 2; omega) rfl) rfl) rfl ?_
 refine zI 0 ?_
 refine go_store_el (T := tFy) (xs := ys) Tk (ys[k + i]) rfl rfl rfl rfl rfl rfl zM (by omega) rfl rfl (ent_Y zM) zF ?_
 refine zR 4 ?_
 refine go_i64 58 rfl (by omega) (by omega) ?_
 refine zR 8 ?_
 refine go_i64 7 rfl (by omega) (by omega) ?_
 refine zz (m + 1, i + 1, ys.set m ys[k + i]) (hC.keep hx (by omega) (by omega) g3) (by show l.length - (i + 1) < l.length - i; omega)
def boxL (b : Nat) (l : List Fa) : OA := OA.ex fun A : Option Addr => OA.ex fun c : Nat => OA.all [pt b 22 [.slice A l.length c], ol tFa 29 A c l]
theorem boxL_mk {b : Nat} {A : Option Addr} {c : Nat} {l : List Fa} {hp h : Heap} (q : Sep hp [pt b 22 [.slice A l.length c], ol tFa 29 A c l] h) : (boxL b l).p hp h := ⟨A, c, q⟩
theorem go_boxL {C : Ctx} {k : List It} {E : Env} {Ps : List PA} {Os : List OA} {b : Nat} {l : List Fa} {rr : List OA} (h : Rem (boxL b l) Os rr) (g : ∀ (A : Option Addr) (c : Nat), Go C k E Ps ([pt b 22 [.slice A l.length c], ol tFa 29 A c l] ++ rr)) : Go C k E Ps Os :=
  go_oex h fun A => go_oex .here fun c => go_oall .here (g A c)
def TellSpec (g : FuncId) (cap : Array Value) (R : List Fa → OA) : Prop := ∀ (done : List Fa) (x : Fa) (A : Option Addr) (c : Nat), x.a.length ≤ 100000 → done.length ≤ 1000000 →
  Spec Try.prog g (Value.agg #[.int .u32 x.p, .slice A x.a.length c] :: cap.toList).toArray [sl tU A c x.a] [R done] (fun v Ps' Os' => v = .tuple #[] ∧ Ps' = [] ∧ Os' = [R (done ++ [x])])
theorem ask1 (b : Nat) (done : List Fa) (x : Fa) (A : Option Addr) (c : Nat) (h1 : x.a.length ≤ 100000) (h2 : done.length ≤ 1000000) :
    Spec Try.prog 23 #[.agg #[.int .u32 x.p, .slice A x.a.length c], .pointer (some ⟨b, 0, none⟩)] [sl tU A c x.a] [boxL b done] (fun v Ps' Os' => v = .tuple #[] ∧ Ps' = [] ∧ Os' = [boxL b (done ++ [x])]) := by
 refine zSp [.agg #[.int .u32 x.p, .slice A x.a.length c], .pointer (some ⟨b, 0, none⟩)] Try.func23 Try.ntmps23 (fun w0 hp0 hf0 => ?_)
 refine zX 2 ?_
 intro b1
 refine zL 4 ?_
 refine zC 0 (cloneU A c x.a h1) ?_
 rintro _ _ _ ⟨A', c', rfl, rfl, rfl⟩
 refine go_freeze_ol (A := A') (xs := x.a) zM ?_
 refine zS 1 ?_
 refine zR 1 ?_
 refine go_boxL (b := b) zM (fun A1 c1 => ?_)
 refine zL 1 ?_
 refine zL 0 ?_
 refine zV 0 ?_
 intro bn
 refine go_append1 (T := tFa) (xs := done) Tk (x) rfl rfl rfl rfl rfl rfl rfl rfl rfl zM zM rfl (ent_fa zM) (by omega) zH ?_
 intro A3 c3
 refine zS 0 ?_
 refine zR 1 ?_
 refine go_fold [pt b 22 [.slice A3 (done ++ [x]).length c3], ol tFa 29 A3 c3 (done ++ [x])] (boxL b (done ++ [x])) zM (fun _ _ q => boxL_mk q) ?_
 refine zT 0 rfl ⟨rfl, rfl, rfl⟩
theorem queryEach (L : Option Addr) (lc : Nat) (l : List Fa) (a : Am) (AA : Option Addr) (ac : Nat) (g : FuncId) (cap : Array Value) (R : List Fa → OA) (hT : TellSpec g cap R) (ha : ∀ t ∈ a.a, 0 ≤ t.n) (hm : a.a.length ≤ 1000000) (hn : l.length ≤ 1000000) (hb : ∀ x ∈ l, x.a.length ≤ 100000) :
    Spec Try.prog 22 #[.slice L l.length lc, .agg #[.int .u32 a.p, .slice AA a.a.length ac], .func (.func g) #[] cap] [sl tFa L lc l, sl tTm AA ac a.a] [R []] (fun v Ps' Os' => v = .tuple #[] ∧ Ps' = [] ∧ Os' = [R (l.filter (mtch a))]) := by
 refine zSp [.slice L l.length lc, .agg #[.int .u32 a.p, .slice AA a.a.length ac], .func (.func g) #[] cap] Try.func22 Try.ntmps22 (fun w0 hp0 hf0 => ?_)
 refine zX 2 ?_
 intro bt
 refine go_freeze_pt (b := bt) zM ?_
 refine zR 2 ?_
 refine go_len (xs := l) zM (fun l0 m0 => ?_)
 refine zR 6 ?_
 refine zO (X := Nat) (fun k => [(10, .int .i64 (k : Int))]) [2, 4, 8, 9] (fun k => [R ((l.take k).filter (mtch a))]) (fun k => k ≤ l.length) (fun k => l.length - k) 0 (by omega) ?_
 intro k hk
 have hfl := filter_len (mtch a) l k
 refine zD' 5 ?_ ?_
 ·intro hq1
  refine zR 1 ?_
  refine go_end ⟨rfl, rfl⟩ [] [R ((l.take k).filter (mtch a))] (res0 (by rfl)) ⟨rfl, rfl, by rw [List.take_of_length_le (show l.length ≤ k by omega)]⟩ zM zM
 intro hq1
 refine zR 4 ?_
 refine go_elem_fa (xs := l) zM (k) (List.getElem?_eq_getElem (by omega)) (fun b0 o0 A0 c0 hA => ?_); cases hA
 refine zI 1 ?_
 refine zL 0 ?_
 refine zW 0 ?_
 intro b1
 refine zS 0 ?_
 refine zL 3 ?_
 refine zL 0 ?_
 refine zC3 0 (atomsMatch a AA ac l[k] A0 c0 ha hm) ?_
 refine zB' 1 ?_ ?_
 ·intro g1
  (try simp only [dcs, ne_eq] at g1)
  refine zR 6 ?_
  rw [← filter_no (by omega) g1]
  refine go_i64 10 rfl (by omega) (by omega) ?_
  refine zz (k + 1) (by omega) (by omega)
 intro g1
 (try simp only [dcs, ne_eq] at g1)
 refine zL 2 ?_
 refine zC3 0 (hT ((l.take k).filter (mtch a)) l[k] A0 c0 (hb _ (List.getElem_mem _)) (by omega)) ?_
 refine zR 6 ?_
 rw [← filter_yes (by omega) g1]
 refine go_i64 10 rfl (by omega) (by omega) ?_
 refine zz (k + 1) (by omega) (by omega)
theorem queryAsk (L : Option Addr) (lc : Nat) (l : List Fa) (a : Am) (AA : Option Addr) (ac : Nat) (ha : ∀ t ∈ a.a, 0 ≤ t.n) (hm : a.a.length ≤ 1000000) (hn : l.length ≤ 1000000) (hb : ∀ x ∈ l, x.a.length ≤ 100000) :
    Spec Try.prog 9 #[.slice L l.length lc, .agg #[.int .u32 a.p, .slice AA a.a.length ac]] [sl tFa L lc l, sl tTm AA ac a.a] [] (fun v Ps' Os' => ∃ A' c', v = .slice A' (fof (l.filter (mtch a))).length c' ∧ Ps' = [] ∧ Os' = [ol tFa 29 A' c' (fof (l.filter (mtch a)))]) := by
 refine zSp [.slice L l.length lc, .agg #[.int .u32 a.p, .slice AA a.a.length ac]] Try.func9 Try.ntmps9 (fun w0 hp0 hf0 => ?_)
 refine zX 2 ?_
 intro b1
 refine zW 4 ?_
 intro bl
 refine go_own_nil tFa 29 none ?_
 refine go_fold [pt bl 22 [.slice none ([]).length 0], ol tFa 29 none 0 ([])] (boxL bl ([])) zM (fun _ _ q => boxL_mk q) ?_
 refine zL 4 ?_
 refine zC3 1 (queryEach L lc l a AA ac 23 #[.pointer (some ⟨bl, 0, none⟩)] (boxL bl) (fun done x A c h1 h2 => ask1 bl done x A c h1 h2) ha hm hn hb) ?_
 refine zR 2 ?_
 have hfl := List.length_filter_le (mtch a) l
 refine go_boxL (b := bl) zM (fun A1 c1 => ?_)
 refine zL 1 ?_
 refine zC 0 (sortFa A1 c1 (l.filter (mtch a)) (by omega)) ?_
 rintro _ _ _ ⟨m, hs, rfl, rfl, rfl⟩
 have hlm := hs.1.length_eq
 rw [hlm]
 refine zL 3 ?_
 refine zC3 0 (compactFa A1 c1 m (by omega)) ?_
 rw [dd_sorted hs.1 hs.2]
 refine zE 2 [4] ?_
 refine zT 0 rfl ⟨A1, c1, rfl, rfl, rfl⟩
theorem ref13Has (L : Option Addr) (lc : Nat) (l : List Fa) (q : Fa) (QA : Option Addr) (qc : Nat) :
    Spec Try.prog 12 #[.slice L l.length lc, .agg #[.int .u32 q.p, .slice QA q.a.length qc]] [sl tFa L lc l, sl tU QA qc q.a] [] (fun v Ps' Os' => v = .bool (decide (q ∈ l)) ∧ Ps' = [] ∧ Os' = []) := by
 refine zSp [.slice L l.length lc, .agg #[.int .u32 q.p, .slice QA q.a.length qc]] Try.func12 Try.ntmps12 (fun w0 hp0 hf0 => ?_)
 refine zX 2 ?_
 intro b1
 refine zR 4 ?_
 refine go_len (xs := l) zM (fun l0 m0 => ?_)
 refine zR 4 ?_
 refine zO (X := Nat) (fun k => [(5, .int .i64 (k : Int))]) [0, 3] (fun _ => []) (fun k => k ≤ l.length ∧ ¬ q ∈ l.take k) (fun k => l.length - k) 0 ⟨by omega, by simp⟩ ?_
 intro k ⟨hk, hz⟩
 refine zD' 8 ?_ ?_
 ·intro hq1
  refine zT 5 rfl ⟨by rw [List.take_of_length_le (by omega)] at hz; rw [decide_eq_false hz], rfl, rfl⟩
 intro hq1
 refine zR 4 ?_
 refine go_elem_fa (xs := l) zM (k) (List.getElem?_eq_getElem (by omega)) (fun b0 o0 A0 c0 hA => ?_); cases hA
 refine zY 0 [1, 4, 7, 11, 14, 15, 19] ?_
 refine zI 2 ?_
 refine zK 0 ?_
 refine zK 0 ?_
 refine zC3 0 (refCompare _ _ _ _ _ _ _ _) ?_
 refine zD 2 ?_ ?_
 ·intro g1
  refine zE 4 [4] ?_
  refine zT 0 rfl ⟨by rw [decide_eq_true (show q ∈ l from (cmpF_zero (x := l[k]) (q := q)).1 g1 ▸ List.getElem_mem _)], rfl, rfl⟩
 intro g1
 refine zR 7 ?_
 refine go_i64 5 rfl (by omega) (by omega) ?_
 refine zz (k + 1) (⟨by omega, not_next (by omega) hz g1⟩) (by omega)
theorem ref13With (L : Option Addr) (lc : Nat) (l : List Fa) (q : Fa) (QA : Option Addr) (qc : Nat) (hr : rises l) (hn : l.length ≤ 1000000) :
    Spec Try.prog 29 #[.slice L l.length lc, .agg #[.int .u32 q.p, .slice QA q.a.length qc]] [sl tFa L lc l, sl tU QA qc q.a] [] (fun v Ps' Os' => ∃ A' c', v = .slice A' (fput l q).length c' ∧ Ps' = [sl tFa A' c' (fput l q)] ∧ Os' = []) := by
 refine zSp [.slice L l.length lc, .agg #[.int .u32 q.p, .slice QA q.a.length qc]] Try.func29 Try.ntmps29 (fun w0 hp0 hf0 => ?_)
 refine zR 1 ?_
 refine go_len (xs := l) zM (fun l0 m0 => ?_)
 refine zX 1 ?_
 intro bq
 refine go_freeze_pt (b := bq) zM ?_
 refine zL 6 ?_
 refine zC3 0 (ref13Has L lc l q QA qc) ?_
 refine zB 1 ?_ ?_
 ·intro g1
  (try simp only [dcs, ne_eq] at g1)
  refine zR 5 ?_
  refine go_ret ⟨rfl, rfl⟩ [sl tFa L lc l] [] (res1 (by rfl) (.tmp rfl)) ⟨L, lc, by rw [fput_yes g1], by rw [fput_yes g1], rfl⟩ zM zM
 intro g1
 (try simp only [dcs, ne_eq] at g1)
 refine zR 10 ?_
 refine go_own_nil tFa 29 none ?_
 refine zR 2 ?_
 refine go_draw ([cl bq 0 [.int .u32 q.p, .slice QA q.a.length qc]]) ([]) [3] (SL.pre [(1, 0), (1, 1), (2, 3)] (.two (SL.pre [(0, 2), (0, 4), (0, 5), (1, 6)] .nil) (SL.pre [(0, 4), (0, 2), (0, 5), (1, 6)] .nil))) mixed rfl (by kernel_rfl) ?_
 refine zK 2 ?_
 refine go_two ?_ ?_
 ·skip
  refine go_appendN (T := tFa) (xs := []) (ys := l) Tk rfl rfl rfl rfl rfl rfl rfl rfl rfl zM rfl zM (by simp; omega) zH ?_
  intro A2 c2
  rw [List.nil_append]
  refine zV 0 ?_
  intro bn
  refine go_append1 (T := tFa) (xs := l) Tk (q) rfl rfl rfl rfl rfl rfl rfl rfl rfl zM zM rfl (ent_fa zM) (by omega) zH ?_
  intro A3 c3
  refine zR 2 ?_
  refine go_ol_addr (xs := l ++ [q]) zM (by simp) (fun bo hA => ?_); subst hA
  refine go_len_ol (xs := l ++ [q]) zM (fun l3 m3 => ?_)
  have hll : (l ++ [q]).length = l.length + 1 := by simp
  refine go_toY (l := l ++ [q]) zM (fun ys hy hyl => ?_)
  obtain ⟨xs, w0, rfl, hx, hw⟩ := split_last hy
  have hxl : xs.length = l.length := by rw [← hx]; simp
  rw [show xs ++ [w0] = xs.take l.length ++ w0 :: xs.drop l.length from by rw [← hxl]; simp]
  refine zE 0 [3, 5, 6] ?_
  refine zR 2 ?_
  refine zO (X := Nat × Fy) (fun x => [(5, .int .i64 (x.1 : Int))]) [3, 6] (fun x => [ol tFy 29 (some ⟨bo, 0, none⟩) c3 (xs.take x.1 ++ x.2 :: xs.drop x.1)]) (fun x => x.1 ≤ l.length ∧ ∀ y ∈ l.drop x.1, 0 < cF y q) (fun x => x.1) (l.length, w0) ⟨by omega, by simp⟩ ?_
  intro ⟨n, w⟩ ⟨hk, hz⟩
  simp only at hk hz ⊢
  have hmid := mid_len (l := xs) (n := n) (w := w) (by omega)
  refine zR 2 ?_
  by_cases hn0 : 0 < n
  ·skip
   refine go_atY (xs := (xs.take n ++ w :: xs.drop n)) zM (n - 1) (mid_get (by omega) (by omega)) ?_
   refine zY 0 [1, 4, 7, 10, 13, 16, 19, 23, 26, 27, 31, 34] ?_
   refine zR 2 ?_
   refine go_re 20 (.bool true) (by show some (Value.bool (decide _)) = _; rw [decide_eq_true (by omega)]) ?_
   refine zR 4 ?_
   refine go_i64 24 rfl (by omega) (by omega) ?_
   refine go_re 24 (.int .i64 ((n - 1 : Nat) : Int)) (by show some (Value.int _ _) = _; rw [show ((n - 1 : Nat) : Int) = (n : Int) - 1 by omega]) ?_
   refine go_val1 rfl (idx_val Tk rfl rfl rfl rfl rfl (by simp; omega)) rfl ?_
   refine go_val2a rfl (load_val Tk rfl rfl rfl (at_olp fcY fcY_eq (xs := (xs.take n ++ w :: xs.drop n)) zM (n - 1) (mid_get (by omega) (by omega)) rfl rfl) rfl) rfl ?_
   refine zK 0 ?_
   refine zC3 0 (refCompare xs[n - 1].f.p xs[n - 1].A xs[n - 1].f.a xs[n - 1].c _ _ _ _) ?_
   refine zB' 3 ?_ ?_
   ·intro g2
    (try simp only [dcs, ne_eq] at g2)
    refine zR 2 ?_
    have hlast : ∀ (h : 0 < n), ¬ 0 < cF (l[n - 1]'(by omega)) q := by
      intro h
      first
      | omega
      | (rw [← getF hx (show n - 1 < xs.length by omega)]; unfold cF; omega)
    refine zL 3 ?_
    refine go_val0 rfl (idx_val Tk rfl rfl rfl rfl rfl (by simp; omega)) rfl ?_
    refine zSE 0 tFy (xs.take n ++ w :: xs.drop n) n (⟨q, QA, qc⟩ : Fy) (ent_Y (x := ⟨q, QA, qc⟩) zM) ?_
    rw [set_mid (by omega)]
    refine go_ofY (xs := xs.take n ++ (⟨q, QA, qc⟩ : Fy) :: xs.drop n) zM ?_
    rw [mid_map hx, fput_at g1 hr (by omega) hz hlast, show (l ++ [q]).length = (fput l q).length from by rw [fput_no g1]; simp; omega]
    refine go_freeze_ol (xs := fput l q) zM ?_
    refine zE 1 [6] ?_
    refine zT 5 rfl ⟨some ⟨bo, 0, none⟩, c3, rfl, rfl, rfl⟩
   intro g2
   (try simp only [dcs, ne_eq] at g2)
   refine zR 9 ?_
   refine go_i64 35 rfl (by omega) (by omega) ?_
   refine go_re 35 (.int .i64 ((n - 1 : Nat) : Int)) (by show some (Value.int _ _) = _; rw [show ((n - 1 : Nat) : Int) = (n : Int) - 1 by omega]) ?_
   refine go_val0 rfl (idx_val Tk rfl rfl rfl rfl rfl (by simp; omega)) rfl ?_
   refine go_val0 rfl (load_val Tk rfl rfl rfl (at_olp fcY fcY_eq (xs := (xs.take n ++ w :: xs.drop n)) zM (n - 1) (mid_get (by omega) (by omega)) rfl rfl) rfl) rfl ?_
   refine go_val0 rfl (idx_val Tk rfl rfl rfl rfl rfl (by simp; omega)) rfl ?_
   refine zSE 0 tFy (xs.take n ++ w :: xs.drop n) n (xs[n - 1]) (ent_Y zM) ?_
   rw [set_mid (by omega), mid_back (by omega) (by omega)]
   refine zE 1 [3, 5, 6, 22, 23, 24, 25, 26, 27, 28, 29] ?_
   refine zR 3 ?_
   refine go_i64 40 rfl (by omega) (by omega) ?_
   refine go_re 40 (.int .i64 ((n - 1 : Nat) : Int)) (by show some (Value.int _ _) = _; rw [show ((n - 1 : Nat) : Int) = (n : Int) - 1 by omega]) ?_
   refine zR 3 ?_
   refine zz (n - 1, xs[n - 1]) ⟨by show n - 1 ≤ _; omega, drop_more (by omega) (by omega) hz (by rw [← getF hx (show n - 1 < xs.length by omega)]; exact g2)⟩ (by show n - 1 < n; omega)
  ·skip
   refine zY 0 [1, 4, 7, 10, 13, 16, 19, 23, 26, 27, 31, 34] ?_
   refine zR 2 ?_
   refine go_re 20 (.bool false) (by show some (Value.bool (decide _)) = _; rw [decide_eq_false (by omega)]) ?_
   refine zJ 5 ?_
   refine zJ 0 ?_
   refine zDf 4 ?_
   refine zR 2 ?_
   have hlast : ∀ (h : 0 < n), ¬ 0 < cF (l[n - 1]'(by omega)) q := by
     intro h
     first
     | omega
     | (rw [← getF hx (show n - 1 < xs.length by omega)]; unfold cF; omega)
   refine zL 3 ?_
   refine go_val0 rfl (idx_val Tk rfl rfl rfl rfl rfl (by simp; omega)) rfl ?_
   refine zSE 0 tFy (xs.take n ++ w :: xs.drop n) n (⟨q, QA, qc⟩ : Fy) (ent_Y (x := ⟨q, QA, qc⟩) zM) ?_
   rw [set_mid (by omega)]
   refine go_ofY (xs := xs.take n ++ (⟨q, QA, qc⟩ : Fy) :: xs.drop n) zM ?_
   rw [mid_map hx, fput_at g1 hr (by omega) hz hlast, show (l ++ [q]).length = (fput l q).length from by rw [fput_no g1]; simp; omega]
   refine go_freeze_ol (xs := fput l q) zM ?_
   refine zE 1 [6] ?_
   refine zT 5 rfl ⟨some ⟨bo, 0, none⟩, c3, rfl, rfl, rfl⟩
 refine zV 0 ?_
 intro bn
 refine go_appendN (T := tFa) (xs := []) (ys := l) Tk rfl rfl rfl rfl rfl rfl rfl rfl rfl zM rfl zM (by simp; omega) zH ?_
 intro A2 c2
 rw [List.nil_append]
 refine go_append1 (T := tFa) (xs := l) Tk (q) rfl rfl rfl rfl rfl rfl rfl rfl rfl zM zM rfl (ent_fa zM) (by omega) zH ?_
 intro A3 c3
 refine zR 2 ?_
 refine go_ol_addr (xs := l ++ [q]) zM (by simp) (fun bo hA => ?_); subst hA
 refine go_len_ol (xs := l ++ [q]) zM (fun l3 m3 => ?_)
 have hll : (l ++ [q]).length = l.length + 1 := by simp
 refine go_toY (l := l ++ [q]) zM (fun ys hy hyl => ?_)
 obtain ⟨xs, w0, rfl, hx, hw⟩ := split_last hy
 have hxl : xs.length = l.length := by rw [← hx]; simp
 rw [show xs ++ [w0] = xs.take l.length ++ w0 :: xs.drop l.length from by rw [← hxl]; simp]
 refine zE 0 [3, 5, 6] ?_
 refine zR 2 ?_
 refine zO (X := Nat × Fy) (fun x => [(5, .int .i64 (x.1 : Int))]) [3, 6] (fun x => [ol tFy 29 (some ⟨bo, 0, none⟩) c3 (xs.take x.1 ++ x.2 :: xs.drop x.1)]) (fun x => x.1 ≤ l.length ∧ ∀ y ∈ l.drop x.1, 0 < cF y q) (fun x => x.1) (l.length, w0) ⟨by omega, by simp⟩ ?_
 intro ⟨n, w⟩ ⟨hk, hz⟩
 simp only at hk hz ⊢
 have hmid := mid_len (l := xs) (n := n) (w := w) (by omega)
 refine zR 2 ?_
 by_cases hn0 : 0 < n
 ·skip
  refine go_atY (xs := (xs.take n ++ w :: xs.drop n)) zM (n - 1) (mid_get (by omega) (by omega)) ?_
  refine zY 0 [1, 4, 7, 10, 13, 16, 19, 23, 26, 27, 31, 34] ?_
  refine zR 2 ?_
  refine go_re 20 (.bool true) (by show some (Value.bool (decide _)) = _; rw [decide_eq_true (by omega)]) ?_
  refine zR 4 ?_
  refine go_i64 24 rfl (by omega) (by omega) ?_
  refine go_re 24 (.int .i64 ((n - 1 : Nat) : Int)) (by show some (Value.int _ _) = _; rw [show ((n - 1 : Nat) : Int) = (n : Int) - 1 by omega]) ?_
  refine go_val1 rfl (idx_val Tk rfl rfl rfl rfl rfl (by simp; omega)) rfl ?_
  refine go_val2a rfl (load_val Tk rfl rfl rfl (at_olp fcY fcY_eq (xs := (xs.take n ++ w :: xs.drop n)) zM (n - 1) (mid_get (by omega) (by omega)) rfl rfl) rfl) rfl ?_
  refine zK 0 ?_
  refine zC3 0 (refCompare xs[n - 1].f.p xs[n - 1].A xs[n - 1].f.a xs[n - 1].c _ _ _ _) ?_
  refine zB' 3 ?_ ?_
  ·intro g2
   (try simp only [dcs, ne_eq] at g2)
   refine zR 2 ?_
   have hlast : ∀ (h : 0 < n), ¬ 0 < cF (l[n - 1]'(by omega)) q := by
     intro h
     first
     | omega
     | (rw [← getF hx (show n - 1 < xs.length by omega)]; unfold cF; omega)
   refine zL 3 ?_
   refine go_val0 rfl (idx_val Tk rfl rfl rfl rfl rfl (by simp; omega)) rfl ?_
   refine zSE 0 tFy (xs.take n ++ w :: xs.drop n) n (⟨q, QA, qc⟩ : Fy) (ent_Y (x := ⟨q, QA, qc⟩) zM) ?_
   rw [set_mid (by omega)]
   refine go_ofY (xs := xs.take n ++ (⟨q, QA, qc⟩ : Fy) :: xs.drop n) zM ?_
   rw [mid_map hx, fput_at g1 hr (by omega) hz hlast, show (l ++ [q]).length = (fput l q).length from by rw [fput_no g1]; simp; omega]
   refine go_freeze_ol (xs := fput l q) zM ?_
   refine zE 1 [6] ?_
   refine zT 5 rfl ⟨some ⟨bo, 0, none⟩, c3, rfl, rfl, rfl⟩
  intro g2
  (try simp only [dcs, ne_eq] at g2)
  refine zR 9 ?_
  refine go_i64 35 rfl (by omega) (by omega) ?_
  refine go_re 35 (.int .i64 ((n - 1 : Nat) : Int)) (by show some (Value.int _ _) = _; rw [show ((n - 1 : Nat) : Int) = (n : Int) - 1 by omega]) ?_
  refine go_val0 rfl (idx_val Tk rfl rfl rfl rfl rfl (by simp; omega)) rfl ?_
  refine go_val0 rfl (load_val Tk rfl rfl rfl (at_olp fcY fcY_eq (xs := (xs.take n ++ w :: xs.drop n)) zM (n - 1) (mid_get (by omega) (by omega)) rfl rfl) rfl) rfl ?_
  refine go_val0 rfl (idx_val Tk rfl rfl rfl rfl rfl (by simp; omega)) rfl ?_
  refine zSE 0 tFy (xs.take n ++ w :: xs.drop n) n (xs[n - 1]) (ent_Y zM) ?_
  rw [set_mid (by omega), mid_back (by omega) (by omega)]
  refine zE 1 [3, 5, 6, 22, 23, 24, 25, 26, 27, 28, 29] ?_
  refine zR 3 ?_
  refine go_i64 40 rfl (by omega) (by omega) ?_
  refine go_re 40 (.int .i64 ((n - 1 : Nat) : Int)) (by show some (Value.int _ _) = _; rw [show ((n - 1 : Nat) : Int) = (n : Int) - 1 by omega]) ?_
  refine zR 3 ?_
  refine zz (n - 1, xs[n - 1]) ⟨by show n - 1 ≤ _; omega, drop_more (by omega) (by omega) hz (by rw [← getF hx (show n - 1 < xs.length by omega)]; exact g2)⟩ (by show n - 1 < n; omega)
 ·skip
  refine zY 0 [1, 4, 7, 10, 13, 16, 19, 23, 26, 27, 31, 34] ?_
  refine zR 2 ?_
  refine go_re 20 (.bool false) (by show some (Value.bool (decide _)) = _; rw [decide_eq_false (by omega)]) ?_
  refine zJ 5 ?_
  refine zJ 0 ?_
  refine zDf 4 ?_
  refine zR 2 ?_
  have hlast : ∀ (h : 0 < n), ¬ 0 < cF (l[n - 1]'(by omega)) q := by
    intro h
    first
    | omega
    | (rw [← getF hx (show n - 1 < xs.length by omega)]; unfold cF; omega)
  refine zL 3 ?_
  refine go_val0 rfl (idx_val Tk rfl rfl rfl rfl rfl (by simp; omega)) rfl ?_
  refine zSE 0 tFy (xs.take n ++ w :: xs.drop n) n (⟨q, QA, qc⟩ : Fy) (ent_Y (x := ⟨q, QA, qc⟩) zM) ?_
  rw [set_mid (by omega)]
  refine go_ofY (xs := xs.take n ++ (⟨q, QA, qc⟩ : Fy) :: xs.drop n) zM ?_
  rw [mid_map hx, fput_at g1 hr (by omega) hz hlast, show (l ++ [q]).length = (fput l q).length from by rw [fput_no g1]; simp; omega]
  refine go_freeze_ol (xs := fput l q) zM ?_
  refine zE 1 [6] ?_
  refine zT 5 rfl ⟨some ⟨bo, 0, none⟩, c3, rfl, rfl, rfl⟩
end Go.Proofs.Ytmomkfedcmogmaa.SL
namespace Go.Proofs.Ytmomkfedcmogmaa.SL
theorem fof_snoc (l : List Fa) (x : Fa) : fof (l ++ [x]) = fput (fof l) x := by unfold fof; rw [List.foldl_append]; rfl
theorem fof_filter_yes {p : Fa → Bool} {l : List Fa} {k : Nat} (hk : k < l.length) (h : p l[k] = true) : fof ((l.take (k + 1)).filter p) = fput (fof ((l.take k).filter p)) l[k] := by rw [filter_yes hk h, fof_snoc]
theorem fof_filter_no {p : Fa → Bool} {l : List Fa} {k : Nat} (hk : k < l.length) (h : p l[k] = false) : fof ((l.take (k + 1)).filter p) = fof ((l.take k).filter p) := by rw [filter_no hk h]
def fewQ (l : List Fa) (a : Am) : Bool := decide (l.length ≤ 150 ∧ a.a.length ≤ 30 ∧ ∀ x ∈ l, x.a.length ≤ 30)
theorem fewQ_no1 {l : List Fa} {a : Am} (h : 150 < l.length ∨ 30 < a.a.length) : fewQ l a = false := by unfold fewQ; rw [decide_eq_false_iff_not]; rintro ⟨g1, g2, _⟩; omega
theorem fewQ_no2 {l : List Fa} {a : Am} {k : Nat} (hk : k < l.length) (h : 30 < l[k].a.length) : fewQ l a = false := by
  unfold fewQ; rw [decide_eq_false_iff_not]; rintro ⟨_, _, g⟩; have := g _ (List.getElem_mem hk); omega
theorem fewQ_yes {l : List Fa} {a : Am} (h : l.length ≤ 150) (h2 : a.a.length ≤ 30) (g : ∀ x ∈ l, x.a.length ≤ 30) : fewQ l a = true := by unfold fewQ; rw [decide_eq_true_iff]; exact ⟨h, h2, g⟩
theorem fewQ_iff {l : List Fa} {a : Am} : fewQ l a = true ↔ l.length ≤ 150 ∧ a.a.length ≤ 30 ∧ ∀ x ∈ l, x.a.length ≤ 30 := by unfold fewQ; rw [decide_eq_true_iff]
theorem mem_ask {p : Fa → Bool} {l : List Fa} {x : Fa} : x ∈ fof (l.filter p) ↔ x ∈ l ∧ p x = true := by rw [mem_fof, List.mem_filter]
theorem both_sorted (p : Fa → Bool) (l m : List Fa) : fof ((l ++ m).filter p) = fof (fof (l.filter p) ++ fof (m.filter p)) :=
  rises_ext (rises_fof _) (rises_fof _) fun x => by
    rw [mem_fof, mem_fof, List.mem_append, mem_ask, mem_ask, List.mem_filter, List.mem_append]
    constructor
    · rintro ⟨h | h, g⟩
      · exact .inl ⟨h, g⟩
      · exact .inr ⟨h, g⟩
    · rintro (⟨h, g⟩ | ⟨h, g⟩)
      · exact ⟨.inl h, g⟩
      · exact ⟨.inr h, g⟩
theorem ask_again (p : Fa → Bool) (l : List Fa) : fof ((fof (l.filter p)).filter p) = fof (l.filter p) :=
  rises_ext (rises_fof _) (rises_fof _) fun x => by
    rw [mem_ask, mem_ask]; exact ⟨fun h => h.1, fun h => ⟨h, h.2⟩⟩
theorem ask_lift {l : List Fa} {q : Fa} (h : q ∈ l) : fof (l.filter (mtch (lift q))) = [q] :=
  rises_ext (rises_fof _) (by unfold rises; simp) fun x => by
    rw [mem_ask, mtch_lift, decide_eq_true_iff, List.mem_singleton]
    exact ⟨fun g => g.2, fun g => ⟨g ▸ h, g⟩⟩
theorem is_ask {l : List Fa} {a : Am} {q : Fa} (h : q ∈ l) : (decide (q ∈ fof (l.filter (mtch a))) == mtch a q) = true := by
  cases e : mtch a q with
  | true => rw [decide_eq_true (mem_ask.2 ⟨h, e⟩)]; rfl
  | false => rw [decide_eq_false (fun c => by have := (mem_ask.1 c).2; rw [e] at this; cases this)]; rfl
def subT (t : Tm) (s : Int) (x : Tm) : Tm := if x = t then ⟨false, s⟩ else x
def subA (a : Am) (t : Tm) (s : Int) : Am := ⟨a.p, a.a.map (subT t s)⟩
theorem mtch_sub {a : Am} {t : Tm} {s : Int} {f : Fa} {j : Nat} (hj : a.a[j]? = some t) (hv : t.v = true) : mtch (subA a t s) f = true ↔ mtch a f = true ∧ f.a[j]? = some s := by
  unfold mtch
  rw [decide_eq_true_iff, decide_eq_true_iff]
  have key : ∀ σ : Int → Int, σ t.n = s → ap σ (subA a t s) = ap σ a := fun σ hs => by
    simp only [ap, subA, List.map_map, Fa.mk.injEq, true_and]
    apply List.map_congr_left
    intro x _
    simp only [Function.comp, subT]
    split
    · rename_i e; subst e; simp [tv, hv, hs]
    · rfl
  constructor
  · rintro ⟨σ, rfl⟩
    have e : ap σ (subA a t s) = ap (fun n => if n = t.n then s else σ n) a := by
      simp only [ap, subA, List.map_map, Fa.mk.injEq, true_and]
      apply List.map_congr_left
      intro x _
      simp only [Function.comp, subT]
      split
      · rename_i e; subst e; simp [tv, hv]
      · rename_i hne
        unfold tv
        cases hx : x.v with
        | false => rfl
        | true =>
          have : ¬ x.n = t.n := fun q => hne (by cases x; cases t; simp_all)
          simp [this]
    rw [e]
    exact ⟨⟨_, rfl⟩, by simp [ap, hj, tv, hv]⟩
  · rintro ⟨⟨σ, rfl⟩, h⟩
    have hs : σ t.n = s := by simpa [ap, hj, tv, hv] using h
    exact ⟨σ, (key σ hs).symm⟩
def addS (S : List Int) (n : Int) : List Int := if n ∈ S then S else S ++ [n]
def syms (l : List Int) : List Int := l.foldl addS []
theorem syms_snoc (l : List Int) (n : Int) : syms (l ++ [n]) = addS (syms l) n := by unfold syms; rw [List.foldl_append]; rfl
theorem syms_mem (l : List Int) (n : Int) : n ∈ syms l ↔ n ∈ l := by
  have key : ∀ (l S : List Int), n ∈ l.foldl addS S ↔ n ∈ S ∨ n ∈ l := by
    intro l
    induction l with
    | nil => intro S; simp
    | cons m l ih =>
      intro S
      rw [List.foldl_cons, ih, List.mem_cons]
      have : n ∈ addS S m ↔ n ∈ S ∨ n = m := by
        unfold addS; split
        · rename_i h; exact ⟨.inl, fun g => g.elim id (fun e => e ▸ h)⟩
        · rw [List.mem_append, List.mem_singleton]
      rw [this, or_assoc]
  unfold syms; rw [key]; simp
theorem syms_nodup (l : List Int) : (syms l).Nodup := by
  have key : ∀ (l S : List Int), S.Nodup → (l.foldl addS S).Nodup := by
    intro l
    induction l with
    | nil => exact fun S h => h
    | cons m l ih =>
      intro S h
      rw [List.foldl_cons]
      apply ih
      unfold addS; split
      · exact h
      · rename_i hm; rw [List.nodup_append]; exact ⟨h, by simp, fun x hx y hy => by rw [List.mem_singleton.1 hy]; exact fun e => hm (e ▸ hx)⟩
  exact key l [] .nil
theorem syms_len (l : List Int) : (syms l).length ≤ l.length := by
  have key : ∀ (l S : List Int), (l.foldl addS S).length ≤ S.length + l.length := by
    intro l
    induction l with
    | nil => intro S; simp
    | cons m l ih =>
      intro S
      rw [List.foldl_cons, List.length_cons]
      have h1 := ih (addS S m)
      have h2 : (addS S m).length ≤ S.length + 1 := by unfold addS; split <;> simp
      omega
  have := key l []; simpa [syms] using this
def args (l : List Fa) : List Int := l.flatMap fun x => x.a
theorem args_len : ∀ {l : List Fa} {n : Nat}, (∀ x ∈ l, x.a.length ≤ n) → (args l).length ≤ l.length * n
  | [], _, _ => by simp [args]
  | x :: l, n, h => by
    have h1 := args_len (l := l) (n := n) fun y hy => h y (.tail _ hy)
    have h2 := h x (.head _)
    unfold args at h1 ⊢
    rw [List.flatMap_cons, List.length_append, List.length_cons, Nat.add_mul]
    omega
noncomputable def parts (l : List Fa) (a : Am) (t : Tm) (S : List Int) : Nat := (S.map fun s => (fof (l.filter (mtch (subA a t s)))).length).sum
theorem parts_next {l : List Fa} {a : Am} {t : Tm} {S : List Int} {k : Nat} (hk : k < S.length) : parts l a t (S.take (k + 1)) = parts l a t (S.take k) + (fof (l.filter (mtch (subA a t S[k])))).length := by
  unfold parts; rw [List.take_succ_eq_append_getElem hk, List.map_append, List.sum_append]; simp only [List.map_cons, List.map_nil, List.sum_cons, List.sum_nil, Nat.add_zero]
theorem count_parts (X : List Fa) (g : Fa → Int) : ∀ (S : List Int), S.Nodup → (S.map fun s => (X.filter fun f => decide (g f = s)).length).sum = (X.filter fun f => decide (g f ∈ S)).length
  | [], _ => by rw [List.filter_eq_nil_iff.2 (by simp)]; rfl
  | s :: S, h => by
    rw [List.nodup_cons] at h
    rw [List.map_cons, List.sum_cons, count_parts X g S h.2]
    induction X with
    | nil => rfl
    | cons f X ih =>
      simp only [List.mem_cons] at ih ⊢
      by_cases h1 : g f = s
      · have h2 : ¬ g f ∈ S := fun c => h.1 (h1 ▸ c)
        simp only [List.filter_cons, h1, h2, List.mem_cons, true_or, decide_true, if_true, List.length_cons]
        rw [← h1]
        simp only [h2, decide_false, Bool.false_eq_true, if_false]
        rw [← h1] at ih
        omega
      · by_cases h2 : g f ∈ S
        · simp only [List.filter_cons, h1, h2, List.mem_cons, or_true, decide_true, decide_false, if_true, Bool.false_eq_true, if_false, List.length_cons]; omega
        · simp only [List.filter_cons, h1, h2, List.mem_cons, or_false, decide_false, Bool.false_eq_true, if_false]; exact ih
theorem parts_all {l : List Fa} {a : Am} {t : Tm} {j : Nat} (hj : a.a[j]? = some t) (hv : t.v = true) : parts l a t (syms (args l)) = (fof (l.filter (mtch a))).length := by
  have e : ∀ s, fof (l.filter (mtch (subA a t s))) = (fof (l.filter (mtch a))).filter (fun f => decide (f.a.getD j 0 = s)) := fun s =>
    rises_ext (rises_fof _) (rises_filter (rises_fof _) _) fun x => by
      rw [mem_ask, List.mem_filter, mem_ask, mtch_sub hj hv, decide_eq_true_iff]
      constructor
      · rintro ⟨h1, h2, h3⟩; exact ⟨⟨h1, h2⟩, by rw [List.getD_eq_getElem?_getD, h3]; rfl⟩
      · rintro ⟨⟨h1, h2⟩, h3⟩
        refine ⟨h1, h2, ?_⟩
        unfold mtch at h2
        rw [decide_eq_true_iff] at h2
        have hl := h2.pred.2
        have hjl : j < x.a.length := by rw [← hl]; exact (List.getElem?_eq_some_iff.1 hj).1
        rw [List.getD_eq_getElem?_getD, List.getElem?_eq_getElem hjl] at h3
        rw [List.getElem?_eq_getElem hjl]; exact congrArg some h3
  unfold parts
  simp only [e]
  rw [count_parts _ (fun f => f.a.getD j 0) _ (syms_nodup _)]
  congr 1
  rw [List.filter_eq_self]
  intro x hx
  rw [mem_ask] at hx
  obtain ⟨h1, h2⟩ := hx
  unfold mtch at h2
  rw [decide_eq_true_iff] at h2
  have hl := h2.pred.2
  have hjl : j < x.a.length := by rw [← hl]; exact (List.getElem?_eq_some_iff.1 hj).1
  rw [decide_eq_true_iff, syms_mem]
  unfold args
  rw [List.mem_flatMap]
  exact ⟨x, h1, by rw [List.getD_eq_getElem?_getD, List.getElem?_eq_getElem hjl]; exact List.getElem_mem _⟩
theorem part_in {l : List Fa} {a : Am} {t : Tm} {s : Int} {j : Nat} (hj : a.a[j]? = some t) (hv : t.v = true) {x : Fa} (hx : x ∈ fof (l.filter (mtch (subA a t s)))) : x ∈ fof (l.filter (mtch a)) := by
  rw [mem_ask] at hx ⊢
  exact ⟨hx.1, ((mtch_sub hj hv).1 hx.2).1⟩
theorem args_next {l : List Fa} {i : Nat} (hi : i < l.length) : args (l.take (i + 1)) = args (l.take i) ++ l[i].a := by unfold args; rw [List.take_succ_eq_append_getElem hi, List.flatMap_append]; simp
theorem syms_row0 {l : List Fa} {i : Nat} (hi : i < l.length) : syms (args (l.take i)) = syms (args (l.take i) ++ l[i].a.take 0) := by simp
theorem syms_row {l : List Fa} {i k : Nat} (hi : i < l.length) (hk : l[i].a.length ≤ k) : syms (args (l.take i) ++ l[i].a.take k) = syms (args (l.take (i + 1))) := by rw [args_next hi, List.take_of_length_le hk]
theorem syms_new {l : List Fa} {i k : Nat} {hi : i < l.length} (hk : k < l[i].a.length) (h : ¬ l[i].a[k] ∈ syms (args (l.take i) ++ l[i].a.take k)) : syms (args (l.take i) ++ l[i].a.take (k + 1)) = syms (args (l.take i) ++ l[i].a.take k) ++ [l[i].a[k]] := by
  rw [List.take_succ_eq_append_getElem hk, ← List.append_assoc, syms_snoc, addS, if_neg h]
theorem syms_old {l : List Fa} {i k : Nat} {hi : i < l.length} (hk : k < l[i].a.length) (h : l[i].a[k] ∈ syms (args (l.take i) ++ l[i].a.take k)) : syms (args (l.take i) ++ l[i].a.take (k + 1)) = syms (args (l.take i) ++ l[i].a.take k) := by
  rw [List.take_succ_eq_append_getElem hk, ← List.append_assoc, syms_snoc, addS, if_pos h]
theorem syms_part {l : List Fa} {i k : Nat} {hi : i < l.length} {n : Nat} (hb : ∀ x ∈ l, x.a.length ≤ n) (hk : k ≤ l[i].a.length) : (syms (args (l.take i) ++ l[i].a.take k)).length ≤ l.length * n := by
  refine Nat.le_trans (syms_len _) ?_
  have h1 := args_len (l := l.take (i + 1)) (n := n) fun x hx => hb x (List.mem_of_mem_take hx)
  rw [args_next hi, List.length_append] at h1
  have h2 : (l.take (i + 1)).length * n ≤ l.length * n := Nat.mul_le_mul_right _ (by simp; omega)
  rw [List.length_append, List.length_take]
  omega
theorem int_next_yes {l : List Int} {x : Int} {j : Nat} (h : x ∈ l.take j) : decide (x ∈ l.take (j + 1)) = true := by
  rw [decide_eq_true_iff]; exact (List.take_sublist_take_left (by omega)).subset h
theorem int_next_no {l : List Int} {x : Int} {j : Nat} (hj : j < l.length) (h : ¬ x ∈ l.take j) : decide (x ∈ l.take (j + 1)) = decide (l[j] = x) := by
  rw [List.take_succ_eq_append_getElem hj, decide_eq_decide, List.mem_append, List.mem_singleton]
  exact ⟨fun q => q.elim (fun c => absurd c h) (fun e => e.symm), fun q => .inr q.symm⟩
theorem syms_ok {l : List Fa} (h : ∀ x ∈ l, x.ok) {n : Int} (hn : n ∈ syms (args l)) : 0 ≤ n := by
  rw [syms_mem] at hn
  unfold args at hn
  rw [List.mem_flatMap] at hn
  obtain ⟨x, hx, hn⟩ := hn
  exact ((h x hx).2 n hn).1
theorem subA_ok {a : Am} {t : Tm} {s : Int} (h : ∀ x ∈ a.a, 0 ≤ x.n) (hs : 0 ≤ s) : ∀ x ∈ (subA a t s).a, 0 ≤ x.n := fun x hx => by
  simp only [subA, List.mem_map] at hx
  obtain ⟨y, hy, rfl⟩ := hx
  unfold subT; split
  · exact hs
  · exact h y hy
theorem parts_le {l : List Fa} {a : Am} {t : Tm} {S : List Int} : parts l a t S ≤ S.length * l.length := by
  unfold parts
  induction S with
  | nil => simp
  | cons s S ih =>
    rw [List.map_cons, List.sum_cons, List.length_cons, Nat.add_mul]
    have := Nat.le_trans (fof_len (l.filter (mtch (subA a t s)))) (List.length_filter_le _ _)
    omega
def subs (a : List Tm) (t : Tm) (s : Int) (n : Nat) : List Tm := (a.take n).map (subT t s) ++ a.drop n
theorem subs_len (a : List Tm) (t : Tm) (s : Int) (n : Nat) : (subs a t s n).length = a.length := by simp [subs]; omega
theorem subs_get {a : List Tm} {t : Tm} {s : Int} {n : Nat} (h : n < a.length) : (subs a t s n)[n]? = some a[n] := by
  unfold subs
  rw [List.getElem?_append_right (by simp; omega), List.getElem?_drop]
  simp [Nat.min_eq_left (Nat.le_of_lt h), h]
theorem subs_cons {a : List Tm} {t : Tm} {s : Int} {n : Nat} (h : n < a.length) : subs a t s (n + 1) = (a.take n).map (subT t s) ++ subT t s a[n] :: a.drop (n + 1) := by
  unfold subs; rw [List.take_succ_eq_append_getElem h, List.map_append, List.append_assoc]; rfl
theorem subs_yes {a : List Tm} {t : Tm} {s : Int} {n : Nat} (h : n < a.length) (e : t = a[n]) : subs a t s (n + 1) = (subs a t s n).set n ⟨false, s⟩ := by
  rw [subs_cons h]
  unfold subs
  rw [List.drop_eq_getElem_cons h, List.set_append_right _ _ (by simp; omega)]
  simp [Nat.min_eq_left (Nat.le_of_lt h), subT, ← e]
theorem subs_no {a : List Tm} {t : Tm} {s : Int} {n : Nat} (h : n < a.length) (e : ¬ t = a[n]) : subs a t s (n + 1) = subs a t s n := by
  rw [subs_cons h]
  unfold subs
  rw [List.drop_eq_getElem_cons h]
  simp [subT, Ne.symm e]
theorem subs_all {a : Am} {t : Tm} {s : Int} : subs a.a t s a.a.length = (subA a t s).a := by simp [subs, subA]
def fcT (x : Tm) : List Value := [.bool x.v, .int .u32 x.n]
theorem fcT_eq : ∀ (h : Heap) (x : Tm) (cs : List Value), tTm.rep h x cs → cs = fcT x := fun _ _ _ h => tTm_open h
end Go.Proofs.Ytmomkfedcmogmaa.SL
namespace Go.Proofs.Ytmomkfedcmogmaa.SL
open Go
theorem ref13Sorted (L : Option Addr) (lc : Nat) (l : List Fa) (hn : l.length ≤ 1000000) :
    Spec Try.prog 14 #[.slice L l.length lc] [sl tFa L lc l] [] (fun v Ps' Os' => ∃ A' c', v = .slice A' (fof l).length c' ∧ Ps' = [sl tFa A' c' (fof l)] ∧ Os' = []) := by
 refine zSp [.slice L l.length lc] Try.func14 Try.ntmps14 (fun w0 hp0 hf0 => ?_)
 refine zR 5 ?_
 refine go_len (xs := l) zM (fun l0 m0 => ?_)
 refine zR 2 ?_
 refine go_own_nil tFa 29 none ?_
 refine go_freeze_ol (xs := ([] : List Fa)) zM ?_
 refine zR 7 ?_
 refine go_loop (X := Nat × Option Addr × Nat) (fun x => [(3, .slice x.2.1 (fof (l.take x.1)).length x.2.2), (4, .int .i64 (x.1 : Int))]) [(0, _)] (fun x => [sl tFa x.2.1 x.2.2 (fof (l.take x.1)), sl tFa L lc l]) (fun _ => []) (fun x => x.1 ≤ l.length) (fun x => l.length - x.1) ((0, none, 0)) zA zM zM (by omega) ?_
 intro ⟨k, A1, c1⟩ hk
 simp only at hk ⊢
 refine zD' 8 ?_ ?_
 ·intro hq1
  refine zR 2 ?_
  rw [List.take_of_length_le (show l.length ≤ k by omega)]
  refine zT 4 rfl ⟨A1, c1, rfl, rfl, rfl⟩
 intro hq1
 refine zR 3 ?_
 refine go_elem_fa (xs := l) zM (k) (List.getElem?_eq_getElem (by omega)) (fun b0 o0 A0 c0 hA => ?_); cases hA
 refine zI 4 ?_
 refine zL 0 ?_
 refine zC 0 (ref13With A1 c1 (fof (l.take k)) l[k] A0 c0 (rises_fof _) (by have := fof_len (l.take k); rw [List.length_take] at this; omega)) ?_
 rintro _ _ _ ⟨A2, c2, rfl, rfl, rfl⟩
 refine zR 8 ?_
 refine go_i64 4 rfl (by omega) (by omega) ?_
 rw [← fof_next (by omega)]
 refine go_back (k + 1, _, _) zA zM zM (by show k + 1 ≤ _; omega) (by show l.length - (k + 1) < l.length - k; omega)
theorem ref16Ask (L : Option Addr) (lc : Nat) (l : List Fa) (a : Am) (AA : Option Addr) (ac : Nat) (hn : l.length ≤ 1000000) :
    Spec Try.prog 10 #[.slice L l.length lc, .agg #[.int .u32 a.p, .slice AA a.a.length ac]] [sl tFa L lc l, sl tTm AA ac a.a] [] (fun v Ps' Os' => ∃ A' c', v = .slice A' (fof (l.filter (mtch a))).length c' ∧ Ps' = [sl tFa A' c' (fof (l.filter (mtch a)))] ∧ Os' = []) := by
 refine zSp [.slice L l.length lc, .agg #[.int .u32 a.p, .slice AA a.a.length ac]] Try.func10 Try.ntmps10 (fun w0 hp0 hf0 => ?_)
 refine zX 2 ?_
 intro bt
 refine go_freeze_pt (b := bt) zM ?_
 refine zR 3 ?_
 refine go_len (xs := l) zM (fun l0 m0 => ?_)
 refine zR 2 ?_
 refine go_own_nil tFa 29 none ?_
 refine go_freeze_ol (xs := ([] : List Fa)) zM ?_
 refine zR 7 ?_
 refine go_loop (X := Nat × Option Addr × Nat) (fun x => [(5, .slice x.2.1 (fof ((l.take x.1).filter (mtch a))).length x.2.2), (6, .int .i64 (x.1 : Int))]) [(0, _), (3, _)] (fun x => [sl tFa x.2.1 x.2.2 (fof ((l.take x.1).filter (mtch a))), sl tFa L lc l, cl bt 0 [.int .u32 a.p, .slice AA a.a.length ac], sl tTm AA ac a.a]) (fun _ => []) (fun x => x.1 ≤ l.length) (fun x => l.length - x.1) ((0, none, 0)) zA zM zM (by omega) ?_
 intro ⟨k, A1, c1⟩ hk
 simp only at hk ⊢
 refine zD' 8 ?_ ?_
 ·intro hq1
  refine zR 2 ?_
  rw [List.take_of_length_le (show l.length ≤ k by omega)]
  refine zT 4 rfl ⟨A1, c1, rfl, rfl, rfl⟩
 intro hq1
 refine zR 4 ?_
 refine go_elem_fa (xs := l) zM (k) (List.getElem?_eq_getElem (by omega)) (fun b0 o0 A0 c0 hA => ?_); cases hA
 refine zY 0 [4, 7, 10, 2, 14, 15] ?_
 refine zI 2 ?_
 refine zK 0 ?_
 refine zK 0 ?_
 refine zC3 0 (refMatch a AA ac l[k] A0 c0) ?_
 refine zB' 1 ?_ ?_
 ·intro g1
  (try simp only [dcs, ne_eq] at g1)
  refine zR 7 ?_
  refine go_i64 6 rfl (by omega) (by omega) ?_
  rw [← fof_filter_no (by omega) g1]
  refine go_back (k + 1, _, _) zA zM zM (by show k + 1 ≤ _; omega) (by show l.length - (k + 1) < l.length - k; omega)
 intro g1
 (try simp only [dcs, ne_eq] at g1)
 refine go_elem_fa (xs := l) zM (k) (List.getElem?_eq_getElem (by omega)) (fun b2 o2 A2 c2 hA => ?_); cases hA
 refine zI 4 ?_
 refine zL 0 ?_
 refine zC 0 (ref13With A1 c1 (fof ((l.take k).filter (mtch a))) l[k] A2 c2 (rises_fof _) (by have := fof_len ((l.take k).filter (mtch a)); have := filter_len (mtch a) l k; omega)) ?_
 rintro _ _ _ ⟨A3, c3, rfl, rfl, rfl⟩
 refine zE 2 [0, 3, 5, 6] ?_
 refine zR 6 ?_
 refine go_i64 6 rfl (by omega) (by omega) ?_
 rw [← fof_filter_yes (by omega) g1]
 refine go_back (k + 1, _, _) zA zM zM (by show k + 1 ≤ _; omega) (by show l.length - (k + 1) < l.length - k; omega)
theorem ref13Same (A : Option Addr) (c : Nat) (l : List Fa) (B : Option Addr) (d : Nat) (m : List Fa) :
    Spec Try.prog 8 #[.slice A l.length c, .slice B m.length d] [sl tFa A c l, sl tFa B d m] [] (fun v Ps' Os' => v = .bool (decide (l = m)) ∧ Ps' = [] ∧ Os' = []) := by
 refine zSp [.slice A l.length c, .slice B m.length d] Try.func8 Try.ntmps8 (fun w0 hp0 hf0 => ?_)
 refine zR 6 ?_
 refine go_len (xs := l) zM (fun l0 m0 => ?_)
 refine go_len (xs := m) zM (fun l1 m1 => ?_)
 refine zN 7 ?_ ?_
 ·intro g1
  refine zT 4 rfl ⟨by first | rw [decide_eq_false (fun e => g1 (by rw [e]))] | rw [decide_eq_false (same_no (k := k) (by omega) (by omega) (by simpa using g2))] | rw [decide_eq_true (same_yes hl (show l.length ≤ k by omega) hz)], rfl, rfl⟩
 intro g1
 refine zR 3 ?_
 have hl : l.length = m.length := by omega
 refine zR 4 ?_
 refine zO (X := Nat) (fun k => [(5, .int .i64 (k : Int))]) [0, 1] (fun _ => []) (fun k => k ≤ l.length ∧ l.take k = m.take k) (fun k => l.length - k) 0 ⟨by omega, by simp⟩ ?_
 intro k ⟨hk, hz⟩
 refine zD' 8 ?_ ?_
 ·intro hq1
  refine zT 5 rfl ⟨by first | rw [decide_eq_false (fun e => g1 (by rw [e]))] | rw [decide_eq_false (same_no (k := k) (by omega) (by omega) (by simpa using g2))] | rw [decide_eq_true (same_yes hl (show l.length ≤ k by omega) hz)], rfl, rfl⟩
 intro hq1
 refine zR 4 ?_
 refine go_elem_fa (xs := l) (c := c) zM (k) (List.getElem?_eq_getElem (by omega)) (fun b0 o0 A0 c0 hA => ?_); cases hA
 refine go_elem_fa (xs := m) (c := d) zM (k) (List.getElem?_eq_getElem (by omega)) (fun b2 o2 A2 c2 hA => ?_); cases hA
 refine zY 0 [1, 4, 7, 13, 16, 19, 11, 23, 24, 28] ?_
 refine zI 2 ?_
 refine zI 2 ?_
 refine zK 0 ?_
 refine zK 0 ?_
 refine zC3 0 (refCompare _ _ _ _ _ _ _ _) ?_
 refine zE 2 [0, 1, 5, 26] ?_
 refine zN 0 ?_ ?_
 ·intro g2
  refine zT 4 rfl ⟨by first | rw [decide_eq_false (fun e => g1 (by rw [e]))] | rw [decide_eq_false (same_no (k := k) (by omega) (by omega) (by simpa using g2))] | rw [decide_eq_true (same_yes hl (show l.length ≤ k by omega) hz)], rfl, rfl⟩
 intro g2
 refine zR 7 ?_
 refine go_i64 5 rfl (by omega) (by omega) ?_
 refine zz (k + 1) (⟨by omega, take_next (by omega) (by omega) hz (cmpF_zero.1 (by simpa using g2))⟩) (by omega)
theorem lawFew16 (L : Option Addr) (lc : Nat) (l : List Fa) (a : Am) (AA : Option Addr) (ac : Nat) :
    Spec Try.prog 6 #[.slice L l.length lc, .agg #[.int .u32 a.p, .slice AA a.a.length ac]] [sl tFa L lc l, sl tTm AA ac a.a] [] (fun v Ps' Os' => v = .bool (fewQ l a) ∧ Ps' = [] ∧ Os' = []) := by
 refine zSp [.slice L l.length lc, .agg #[.int .u32 a.p, .slice AA a.a.length ac]] Try.func6 Try.ntmps6 (fun w0 hp0 hf0 => ?_)
 refine zX 2 ?_
 intro b1
 refine zR 4 ?_
 refine go_len (xs := l) zM (fun l0 m0 => ?_)
 refine go_len (xs := a.a) zM (fun la ma => ?_)
 refine zG 5 9 ?_ ?_
 ·intro g1
  (try simp only [dcs, ne_eq] at g1)
  refine zDt 6 ?_
  refine zE 4 [4] ?_
  refine zT 0 rfl ⟨by first | rw [fewQ_no1 (by omega)] | rw [fewQ_no2 (k := k) (by omega) (by omega)] | rw [fewQ_yes (by omega) (by omega) (by rw [List.take_of_length_le (by omega)] at hz; exact hz)], rfl, rfl⟩
 intro g1
 (try simp only [dcs, ne_eq] at g1)
 refine zL 1 ?_
 refine zB 4 ?_ ?_
 ·intro g2
  (try simp only [dcs, ne_eq] at g2)
  refine zE 4 [4] ?_
  refine zT 0 rfl ⟨by first | rw [fewQ_no1 (by omega)] | rw [fewQ_no2 (k := k) (by omega) (by omega)] | rw [fewQ_yes (by omega) (by omega) (by rw [List.take_of_length_le (by omega)] at hz; exact hz)], rfl, rfl⟩
 intro g2
 (try simp only [dcs, ne_eq] at g2)
 refine zE 6 [0, 5] ?_
 refine zR 1 ?_
 refine zO (X := Nat) (fun k => [(5, .int .i64 (k : Int))]) [0] (fun _ => []) (fun k => k ≤ l.length ∧ ∀ y ∈ l.take k, y.a.length ≤ 30) (fun k => l.length - k) 0 ⟨by omega, by simp⟩ ?_
 intro k ⟨hk, hz⟩
 refine zD' 8 ?_ ?_
 ·intro hq1
  refine zT 5 rfl ⟨by first | rw [fewQ_no1 (by omega)] | rw [fewQ_no2 (k := k) (by omega) (by omega)] | rw [fewQ_yes (by omega) (by omega) (by rw [List.take_of_length_le (by omega)] at hz; exact hz)], rfl, rfl⟩
 intro hq1
 refine zR 4 ?_
 refine go_elem_fa (xs := l) zM (k) (List.getElem?_eq_getElem (by omega)) (fun b0 o0 A0 c0 hA => ?_); cases hA
 refine zI 3 ?_
 refine zL 1 ?_
 refine zD' 3 ?_ ?_
 ·intro g3
  refine zR 7 ?_
  refine go_i64 5 rfl (by omega) (by omega) ?_
  refine zz (k + 1) (⟨by omega, mem_take_next' (by omega) hz (by omega)⟩) (by omega)
 intro g3
 refine zE 4 [4] ?_
 refine zT 0 rfl ⟨by first | rw [fewQ_no1 (by omega)] | rw [fewQ_no2 (k := k) (by omega) (by omega)] | rw [fewQ_yes (by omega) (by omega) (by rw [List.take_of_length_le (by omega)] at hz; exact hz)], rfl, rfl⟩
theorem law13F (p : Int) (A : Option Addr) (n c : Nat) :
    Spec Try.prog 18 #[.int .u32 p, .slice A n c] [] [] (fun v Ps' Os' => v = .agg #[.int .u32 p, .slice A n c] ∧ Ps' = [] ∧ Os' = []) := by
 refine zSp [.int .u32 p, .slice A n c] Try.func18 Try.ntmps18 (fun w0 hp0 hf0 => ?_)
 refine zW 2 ?_
 intro b1
 refine zq 5 ?_
 refine zS 0 ?_
 refine zR 1 ?_
 refine go_ret ⟨rfl, rfl⟩ _ _ (res1 (by rfl) (.cell rfl (rdv Tk rfl))) ⟨rfl, rfl, rfl⟩ zM zM
theorem law11A (p : Int) (A : Option Addr) (n c : Nat) :
    Spec Try.prog 19 #[.int .u32 p, .slice A n c] [] [] (fun v Ps' Os' => v = .agg #[.int .u32 p, .slice A n c] ∧ Ps' = [] ∧ Os' = []) := by
 refine zSp [.int .u32 p, .slice A n c] Try.func19 Try.ntmps19 (fun w0 hp0 hf0 => ?_)
 refine zW 2 ?_
 intro b1
 refine zq 5 ?_
 refine zS 0 ?_
 refine zR 1 ?_
 refine go_ret ⟨rfl, rfl⟩ _ _ (res1 (by rfl) (.cell rfl (rdv Tk rfl))) ⟨rfl, rfl, rfl⟩ zM zM
theorem law11V (n : Int) :
    Spec Try.prog 20 #[.int .u32 n] [] [] (fun v Ps' Os' => v = .agg #[.bool true, .int .u32 n] ∧ Ps' = [] ∧ Os' = []) := by
 refine zSp [.int .u32 n] Try.func20 Try.ntmps20 (fun w0 hp0 hf0 => ?_)
 refine zW 2 ?_
 intro b1
 refine zq 4 ?_
 refine zS 0 ?_
 refine zR 1 ?_
 refine go_ret ⟨rfl, rfl⟩ _ _ (res1 (by rfl) (.cell rfl (rdv Tk rfl))) ⟨rfl, rfl, rfl⟩ zM zM
theorem wq_1 : fof ([(⟨1, [10, 11]⟩ : Fa), (⟨1, [10, 10]⟩ : Fa)].filter (mtch (⟨1, [⟨true, 0⟩, ⟨true, 0⟩]⟩ : Am))) = [(⟨1, [10, 10]⟩ : Fa)] := by
  have e1 : mtch (⟨1, [⟨true, 0⟩, ⟨true, 0⟩]⟩ : Am) (⟨1, [10, 11]⟩ : Fa) = false := by
    unfold mtch; rw [decide_eq_false_iff_not]; rintro ⟨s, h⟩
    simp [ap, tv] at h; omega
  have e2 : mtch (⟨1, [⟨true, 0⟩, ⟨true, 0⟩]⟩ : Am) (⟨1, [10, 10]⟩ : Fa) = true := by unfold mtch; rw [decide_eq_true_iff]; exact ⟨fun _ => 10, rfl⟩
  rw [List.filter_cons_of_neg (by rw [e1]; simp), List.filter_cons_of_pos e2, List.filter_nil]
  rfl
theorem wq_2 : fof ([(⟨1, [10, 11]⟩ : Fa), (⟨1, [10, 10]⟩ : Fa)].filter (mtch (⟨1, [⟨true, 0⟩, ⟨true, 1⟩]⟩ : Am))) = [(⟨1, [10, 10]⟩ : Fa), (⟨1, [10, 11]⟩ : Fa)] := by
  have e1 : mtch (⟨1, [⟨true, 0⟩, ⟨true, 1⟩]⟩ : Am) (⟨1, [10, 11]⟩ : Fa) = true := by unfold mtch; rw [decide_eq_true_iff]; exact ⟨fun n => 10 + n, rfl⟩
  have e2 : mtch (⟨1, [⟨true, 0⟩, ⟨true, 1⟩]⟩ : Am) (⟨1, [10, 10]⟩ : Fa) = true := by unfold mtch; rw [decide_eq_true_iff]; exact ⟨fun _ => 10, rfl⟩
  rw [List.filter_cons_of_pos e1, List.filter_cons_of_pos e2, List.filter_nil]
  unfold fof; decide
theorem lawWorks16  :
    Spec Try.prog 7 #[] [] [] (fun v Ps' Os' => v = .bool true ∧ Ps' = [] ∧ Os' = []) := by
 refine zSp [] Try.func7 Try.ntmps7 (fun w0 hp0 hf0 => ?_)
 refine zV 6 ?_
 intro b1
 refine go_lit_int (kk := .u32) [10, 11] zM (by simp) ?_
 refine zC3 0 (law13F 1 _ 2 2) ?_
 refine zV 0 ?_
 intro b2
 refine go_lit_int (kk := .u32) [10, 10] zM (by simp) ?_
 refine zC3 0 (law13F 1 _ 2 2) ?_
 refine zV 0 ?_
 intro bl
 refine go_lit tFa (b := bl) [(⟨1, [10, 11]⟩ : Fa), (⟨1, [10, 10]⟩ : Fa)] zM (fun hp a => ⟨[_, _], _, rfl, tFa_mk (x := (⟨1, [10, 11]⟩ : Fa)) (a (sl tU _ _ [10, 11]) zM), [_, _], [], rfl, tFa_mk (x := (⟨1, [10, 10]⟩ : Fa)) (a (sl tU _ _ [10, 10]) zM), rfl⟩) (by simp) ?_
 refine zC3 5 (law11V 0) ?_
 refine zC3 0 (law11V 0) ?_
 refine zV 0 ?_
 intro bt
 refine go_lit tTm (b := bt) [⟨true, 0⟩, ⟨true, 0⟩] zM (fun hp a => ⟨[_, _], _, rfl, tTm_mk (x := ⟨true, 0⟩), [_, _], [], rfl, tTm_mk (x := ⟨true, 0⟩), rfl⟩) (by simp) ?_
 refine zC3 0 (law11A 1 _ 2 2) ?_
 refine zC 0 (queryAsk (some ⟨bl, 0, none⟩) 2 [(⟨1, [10, 11]⟩ : Fa), (⟨1, [10, 10]⟩ : Fa)] (⟨1, [⟨true, 0⟩, ⟨true, 0⟩]⟩ : Am) (some ⟨bt, 0, none⟩) 2 (by intro t ht; simp only [List.mem_cons, List.not_mem_nil, or_false] at ht; rcases ht with rfl | rfl <;> simp) (by simp) (by simp) (by intro x hx; simp only [List.mem_cons, List.not_mem_nil, or_false] at hx; rcases hx with rfl | rfl <;> simp)) ?_
 rintro _ _ _ ⟨A1, c1, rfl, rfl, rfl⟩
 rw [wq_1]
 refine go_freeze_ol (A := A1) (xs := [(⟨1, [10, 10]⟩ : Fa)]) zM ?_
 refine zE 2 [1, 2] ?_
 refine zC3 3 (law11V 0) ?_
 refine zC3 0 (law11V 1) ?_
 refine zV 0 ?_
 intro bu
 refine go_lit tTm (b := bu) [⟨true, 0⟩, ⟨true, 1⟩] zM (fun hp a => ⟨[_, _], _, rfl, tTm_mk (x := ⟨true, 0⟩), [_, _], [], rfl, tTm_mk (x := ⟨true, 1⟩), rfl⟩) (by simp) ?_
 refine zC3 0 (law11A 1 _ 2 2) ?_
 refine zC 0 (queryAsk (some ⟨bl, 0, none⟩) 2 [(⟨1, [10, 11]⟩ : Fa), (⟨1, [10, 10]⟩ : Fa)] (⟨1, [⟨true, 0⟩, ⟨true, 1⟩]⟩ : Am) (some ⟨bu, 0, none⟩) 2 (by intro t ht; simp only [List.mem_cons, List.not_mem_nil, or_false] at ht; rcases ht with rfl | rfl <;> simp) (by simp) (by simp) (by intro x hx; simp only [List.mem_cons, List.not_mem_nil, or_false] at hx; rcases hx with rfl | rfl <;> simp)) ?_
 rintro _ _ _ ⟨A2, c2, rfl, rfl, rfl⟩
 rw [wq_2]
 refine zR 3 ?_
 refine go_sl (sl tFa (some ⟨bl, 0, none⟩) 2 [(⟨1, [10, 11]⟩ : Fa), (⟨1, [10, 10]⟩ : Fa)]) (sl tFa (some ⟨bl, 0 + 1 * 2, none⟩) 1 [(⟨1, [10, 10]⟩ : Fa)]) zM (fun _ hs => Sl.suf hs (n := 1) (by simp)) ?_
 refine zR 3 ?_
 refine go_val0 rfl (slice_val' Tk rfl rfl rfl rfl 1 2 2 (.slice (some ⟨bl, 0 + 1 * 2, none⟩) 1 1) (by first | rfl | exact ⟨_, rfl⟩ | exact ⟨rfl, rfl⟩) (by first | rfl | exact ⟨_, rfl⟩ | exact ⟨rfl, rfl⟩) (by first | rfl | exact ⟨_, rfl⟩ | exact ⟨rfl, rfl⟩) (by omega) (by omega) (by omega) rfl) rfl ?_
 refine zC3 0 (ref13Same A1 c1 [(⟨1, [10, 10]⟩ : Fa)] (some ⟨bl, 0 + 1 * 2, none⟩) 1 [(⟨1, [10, 10]⟩ : Fa)]) ?_
 refine go_re 24 (.bool true) (by show some (Value.bool _) = _; first | rfl | simp) ?_
 refine zR 4 ?_
 refine go_re 28 (.bool true) (by show some (Value.bool _) = _; first | rfl | simp) ?_
 refine zR 4 ?_
 refine go_elem_fa (xs := [(⟨1, [10, 11]⟩ : Fa), (⟨1, [10, 10]⟩ : Fa)]) (A := (some ⟨bl, 0, none⟩)) zM 0 (x := (⟨1, [10, 11]⟩ : Fa)) rfl (fun b9 o9 A9 c9 hA => ?_); cases hA
 refine zI 0 ?_
 refine zL 0 ?_
 refine zC3 0 (queryIs (some ⟨bl, 0, none⟩) 2 [(⟨1, [10, 11]⟩ : Fa), (⟨1, [10, 10]⟩ : Fa)] (⟨1, [10, 11]⟩ : Fa) A9 c9) ?_
 refine go_re 35 (.bool true) (by show some (Value.bool _) = _; first | rfl | simp) ?_
 refine zV 3 ?_
 intro b3
 refine go_lit_int (kk := .u32) [11, 11] zM (by simp) ?_
 refine zC3 0 (law13F 1 _ 2 2) ?_
 refine zC3 0 (queryIs (some ⟨bl, 0, none⟩) 2 [(⟨1, [10, 11]⟩ : Fa), (⟨1, [10, 10]⟩ : Fa)] (⟨1, [11, 11]⟩ : Fa) _ _) ?_
 refine go_re 41 (.bool false) (by show some (Value.bool _) = _; first | rfl | simp) ?_
 refine zE 4 [0] ?_
 refine zT 0 rfl ⟨rfl, rfl, rfl⟩
theorem lawQueryPlays (l : List Fa) (LA : Option Addr) (lc : Nat) (gl : ∀ x ∈ l, x.ok) (t : Am) (TA : Option Addr) (tc : Nat) (gt : t.ok) (q : Fa) (QA : Option Addr) (qc : Nat) (gq : q.ok) :
    Spec Try.prog 3 #[.slice LA l.length lc, .agg #[.int .u32 t.p, .slice TA t.a.length tc], .agg #[.int .u32 q.p, .slice QA q.a.length qc]] [sl tFa LA lc l, sl tTm TA tc t.a, sl tU QA qc q.a] [] (fun v Ps' Os' => v = .bool true ∧ Ps' = [] ∧ Os' = []) := by
 refine zSp [.slice LA l.length lc, .agg #[.int .u32 t.p, .slice TA t.a.length tc], .agg #[.int .u32 q.p, .slice QA q.a.length qc]] Try.func3 Try.ntmps3 (fun w0 hp0 hf0 => ?_)
 refine zX 2 ?_
 intro bt
 refine zX 0 ?_
 intro bq
 refine go_freeze_pt (b := bt) zM ?_
 refine go_freeze_pt (b := bq) zM ?_
 refine zR 4 ?_
 refine go_len (xs := q.a) zM (fun lq mq => ?_)
 refine zL 2 ?_
 refine zC3 0 (lawFew16 LA lc l t TA tc) ?_
 refine zG 2 11 ?_ ?_
 ·intro f1
  (try simp only [dcs, ne_eq] at f1)
  refine zE 6 [0, 4, 5, 16] ?_
  refine zDt 0 ?_
  refine zC3 2 lawWorks16 ?_
  refine zT 2 rfl ⟨rfl, rfl, rfl⟩
 intro f1
 (try simp only [dcs, ne_eq] at f1)
 refine zL 1 ?_
 refine zE 4 [0, 4, 5, 16] ?_
 refine zB 0 ?_ ?_
 ·intro f2
  (try simp only [dcs, ne_eq] at f2)
  refine zC3 2 lawWorks16 ?_
  refine zT 2 rfl ⟨rfl, rfl, rfl⟩
 intro f2
 (try simp only [dcs, ne_eq] at f2)
 refine zR 2 ?_
 obtain ⟨hn, hta, hb⟩ := fewQ_iff.1 f1
 have hN : l.length ≤ 1000000 := by omega
 have hB : ∀ x ∈ l, x.a.length ≤ 100000 := fun x hx => Nat.le_trans (hb x hx) (by omega)
 have ha : ∀ x ∈ t.a, 0 ≤ x.n := fun x hx => (gt.2 x hx).1
 have hm : t.a.length ≤ 1000000 := by omega
 refine go_draw ([cl bt 0 [.int .u32 t.p, .slice TA t.a.length tc], cl bq 0 [.int .u32 q.p, .slice QA q.a.length qc]]) ([]) [1, 4, 9, 12] (SL.pre [(1, 0), (1, 3), (2, 1), (2, 4), (0, 2), (0, 5), (0, 6), (1, 7), (1, 8), (1, 11), (2, 9), (2, 12), (0, 10), (0, 13), (1, 14), (1, 15), (1, 16), (0, 17), (1, 18), (1, 19)] .nil) mixed rfl (by kernel_rfl) ?_
 refine zK 2 ?_
 refine zK 0 ?_
 refine go_call (queryAsk LA lc (l) t TA tc ha hm hN hB) rfl rfl (by rfl) rfl zM zM (fun _ v Ps' Os' hq => by obtain ⟨A1, c1, rfl, rfl, rfl⟩ := hq; exact satS zM zM) ?_
 rintro _ _ _ ⟨A1, c1, rfl, rfl, rfl⟩
 refine go_freeze_ol (A := A1) (xs := fof ((l).filter (mtch t))) zM ?_
 refine zC 0 (ref16Ask LA lc l t TA tc hN) ?_
 rintro _ _ _ ⟨A2, c2, rfl, rfl, rfl⟩
 refine zC3 0 (ref13Same A1 c1 (fof (l.filter (mtch t))) A2 c2 (fof (l.filter (mtch t)))) ?_
 refine go_re 24 (.bool true) (by show some (Value.bool _) = _; first | rfl | simp) ?_
 refine zK 3 ?_
 refine zK 0 ?_
 refine go_call (queryIs LA lc l q QA qc) rfl rfl (by rfl) rfl zM zM (fun _ v Ps' Os' hq => by obtain ⟨rfl, rfl, rfl⟩ := hq; exact satS zM zM) ?_
 rintro _ _ _ ⟨rfl, rfl, rfl⟩
 refine zC3 0 (ref13Has LA lc l q QA qc) ?_
 refine zR 1 ?_
 refine go_re 32 (.bool true) (by show some (Value.bool _) = _; simp) ?_
 refine zC3 2 lawWorks16 ?_
 refine zE 3 [6] ?_
 refine zT 0 rfl ⟨rfl, rfl, rfl⟩
theorem lawQueryBoth (l : List Fa) (LA : Option Addr) (lc : Nat) (gl : ∀ x ∈ l, x.ok) (hLl : l.length ≤ 140737488351232) (m : List Fa) (MA : Option Addr) (mc : Nat) (gm : ∀ x ∈ m, x.ok) (hLm : m.length ≤ 140737488351232) (t : Am) (TA : Option Addr) (tc : Nat) (gt : t.ok) :
    Spec Try.prog 5 #[.slice LA l.length lc, .slice MA m.length mc, .agg #[.int .u32 t.p, .slice TA t.a.length tc]] [sl tFa LA lc l, sl tFa MA mc m, sl tTm TA tc t.a] [] (fun v Ps' Os' => v = .bool true ∧ Ps' = [] ∧ Os' = []) := by
 refine zSp [.slice LA l.length lc, .slice MA m.length mc, .agg #[.int .u32 t.p, .slice TA t.a.length tc]] Try.func5 Try.ntmps5 (fun w0 hp0 hf0 => ?_)
 refine zX 2 ?_
 intro bt
 refine go_freeze_pt (b := bt) zM ?_
 refine zR 10 ?_
 refine go_i64 18 rfl (by omega) (by omega) ?_
 refine zG 2 20 ?_ ?_
 ·intro f1
  (try simp only [dcs, ne_eq] at f1)
  refine zDt 4 ?_
  refine zC3 2 lawWorks16 ?_
  refine zE 2 [6] ?_
  refine zT 0 rfl ⟨rfl, rfl, rfl⟩
 intro f1
 (try simp only [dcs, ne_eq] at f1)
 refine zL 0 ?_
 refine zC3 0 (refBig t TA tc) ?_
 refine zB 2 ?_ ?_
 ·intro f2
  (try simp only [dcs, ne_eq] at f2)
  refine zC3 2 lawWorks16 ?_
  refine zE 2 [6] ?_
  refine zT 0 rfl ⟨rfl, rfl, rfl⟩
 intro f2
 (try simp only [dcs, ne_eq] at f2)
 refine zV 3 ?_
 intro bs
 refine go_lit_ol (b := bs) tFa [] zM (fun _ _ => rfl) (by simp) ?_
 refine zR 1 ?_
 refine go_appendN (T := tFa) (xs := []) (ys := l) Tk rfl rfl rfl rfl rfl rfl rfl rfl rfl zM rfl zM (by simp; omega) zH ?_
 intro A1 c1
 rw [List.nil_append]
 refine zR 1 ?_
 refine go_appendN (T := tFa) (xs := l) (ys := m) Tk rfl rfl rfl rfl rfl rfl rfl rfl rfl zM rfl zM (by omega) zH ?_
 intro A2 c2
 refine go_freeze_ol (A := A2) (xs := l ++ m) zM ?_
 refine zE 2 [0, 1, 5, 7] ?_
 refine zR 2 ?_
 have hlm : (l ++ m).length = l.length + m.length := by simp
 have ha : ∀ x ∈ t.a, 0 ≤ x.n := fun x hx => (gt.2 x hx).1
 have hm : t.a.length ≤ 1000000 := by omega
 refine go_len (xs := l ++ m) zM (fun lx mx => ?_)
 refine zR 4 ?_
 refine zO (X := Nat) (fun k => [(8, .int .i64 (k : Int))]) [0, 1, 5, 7] (fun _ => []) (fun k => k ≤ (l ++ m).length ∧ ∀ y ∈ (l ++ m).take k, y.a.length ≤ 100) (fun k => (l ++ m).length - k) 0 ⟨by omega, by simp⟩ ?_
 intro k ⟨hk, hz⟩
 refine zD 8 ?_ ?_
 ·intro hq1
  refine zR 4 ?_
  refine go_elem_fa (xs := (l ++ m)) zM (k) (List.getElem?_eq_getElem (by omega)) (fun b4 o4 A4 c4 hA => ?_); cases hA
  refine zI 3 ?_
  refine zL 1 ?_
  refine zD' 3 ?_ ?_
  ·intro g1
   refine zR 7 ?_
   refine go_i64 8 rfl (by omega) (by omega) ?_
   refine zz (k + 1) (⟨by omega, mem_take_next' (by omega) hz (by omega)⟩) (by omega)
  intro g1
  refine zC3 2 lawWorks16 ?_
  refine zE 2 [6] ?_
  refine zT 0 rfl ⟨rfl, rfl, rfl⟩
 intro hq1
 refine zR 2 ?_
 rw [List.take_of_length_le (by omega)] at hz
 have hN : (l ++ m).length ≤ 1000000 := by omega
 have hB : ∀ x ∈ l ++ m, x.a.length ≤ 100000 := fun x hx => Nat.le_trans (hz x hx) (by omega)
 have hNl : l.length ≤ 1000000 := by omega
 have hNm : m.length ≤ 1000000 := by omega
 have hBl : ∀ x ∈ l, x.a.length ≤ 100000 := fun x hx => hB x (List.mem_append_left _ hx)
 have hBm : ∀ x ∈ m, x.a.length ≤ 100000 := fun x hx => hB x (List.mem_append_right _ hx)
 have hNx : (fof ((l ++ m).filter (mtch t))).length ≤ 1000000 := Nat.le_trans (fof_len _) (Nat.le_trans (List.length_filter_le _ _) hN)
 have hBx : ∀ x ∈ fof ((l ++ m).filter (mtch t)), x.a.length ≤ 100000 := fun x hx => hB x (mem_ask.1 hx).1
 have hNy : (fof (l.filter (mtch t))).length ≤ l.length := Nat.le_trans (fof_len _) (List.length_filter_le _ _)
 have hNz : (fof (m.filter (mtch t))).length ≤ m.length := Nat.le_trans (fof_len _) (List.length_filter_le _ _)
 refine zL 2 ?_
 refine zC 0 (queryAsk A2 c2 ((l ++ m)) t TA tc ha hm hN hB) ?_
 rintro _ _ _ ⟨A5, c5, rfl, rfl, rfl⟩
 refine go_freeze_ol (A := A5) (xs := fof (((l ++ m)).filter (mtch t))) zM ?_
 refine zL 5 ?_
 refine zC 0 (queryAsk LA lc (l) t TA tc ha hm hNl hBl) ?_
 rintro _ _ _ ⟨A6, c6, rfl, rfl, rfl⟩
 refine go_freeze_ol (A := A6) (xs := fof ((l).filter (mtch t))) zM ?_
 refine zE 2 [1, 5, 7, 9, 10] ?_
 refine zL 3 ?_
 refine zC 0 (queryAsk MA mc (m) t TA tc ha hm hNm hBm) ?_
 rintro _ _ _ ⟨A7, c7, rfl, rfl, rfl⟩
 refine go_freeze_ol (A := A7) (xs := fof ((m).filter (mtch t))) zM ?_
 refine zV 6 ?_
 intro bz
 refine go_lit_ol (b := bz) tFa [] zM (fun _ _ => rfl) (by simp) ?_
 refine zR 1 ?_
 refine go_appendN (T := tFa) (xs := []) (ys := fof (l.filter (mtch t))) Tk rfl rfl rfl rfl rfl rfl rfl rfl rfl zM rfl zM (by simp; omega) zH ?_
 intro A8 c8
 rw [List.nil_append]
 refine zR 1 ?_
 refine go_appendN (T := tFa) (xs := fof (l.filter (mtch t))) (ys := fof (m.filter (mtch t))) Tk rfl rfl rfl rfl rfl rfl rfl rfl rfl zM rfl zM (by omega) zH ?_
 intro A9 c9
 refine go_freeze_ol (A := A9) (xs := fof (l.filter (mtch t)) ++ fof (m.filter (mtch t))) zM ?_
 refine zC 0 (ref13Sorted A9 c9 (fof (l.filter (mtch t)) ++ fof (m.filter (mtch t))) (by simp; omega)) ?_
 rintro _ _ _ ⟨B1, d1, rfl, rfl, rfl⟩
 refine zC3 0 (ref13Same A5 c5 (fof ((l ++ m).filter (mtch t))) B1 d1 (fof (fof (l.filter (mtch t)) ++ fof (m.filter (mtch t))))) ?_
 refine zR 1 ?_
 refine go_re 61 (.bool false) (by show some (Value.bool _) = _; rw [both_sorted]; simp) ?_
 refine zL 2 ?_
 refine zC 0 (queryAsk A5 c5 (fof ((l ++ m).filter (mtch t))) t TA tc ha hm hNx hBx) ?_
 rintro _ _ _ ⟨B2, d2, rfl, rfl, rfl⟩
 refine go_freeze_ol (A := B2) (xs := fof ((fof ((l ++ m).filter (mtch t))).filter (mtch t))) zM ?_
 refine zC3 1 (ref13Same B2 d2 (fof ((fof ((l ++ m).filter (mtch t))).filter (mtch t))) A5 c5 (fof ((l ++ m).filter (mtch t)))) ?_
 refine zR 1 ?_
 refine go_re 68 (.bool false) (by show some (Value.bool _) = _; rw [ask_again]; simp) ?_
 refine zE 2 [5, 7, 9, 69] ?_
 refine zDf 0 ?_
 refine zR 7 ?_
 refine zO (X := Nat) (fun k => [(12, .int .i64 (k : Int))]) [5, 7, 9] (fun _ => []) (fun k => k ≤ (l ++ m).length) (fun k => (l ++ m).length - k) 0 (by omega) ?_
 intro k hk
 refine zD' 8 ?_ ?_
 ·intro hq2
  refine zC3 3 lawWorks16 ?_
  refine zT 2 rfl ⟨rfl, rfl, rfl⟩
 intro hq2
 refine zR 4 ?_
 have hxl : (l ++ m)[k] ∈ l ++ m := List.getElem_mem _
 have hxo : ((l ++ m)[k]).ok := (List.mem_append.1 hxl).elim (gl _) (gm _)
 refine go_elem_fa (xs := (l ++ m)) zM (k) (List.getElem?_eq_getElem (by omega)) (fun b4 o4 A4 c4 hA => ?_); cases hA
 refine zI 4 ?_
 refine zL 0 ?_
 refine zC 0 (refLift (l ++ m)[k] A4 c4 (hB _ hxl)) ?_
 rintro _ _ _ ⟨B3, d3, rfl, rfl, rfl⟩
 refine zC 0 (queryAsk _ c2 (l ++ m) (lift (l ++ m)[k]) B3 d3 (lift_ok hxo) (by rw [lift_len]; exact Nat.le_trans (hB _ hxl) (by omega)) hN hB) ?_
 rintro _ _ _ ⟨B4, d4, rfl, rfl, rfl⟩
 rw [ask_lift hxl]
 refine go_freeze_ol (A := B4) (xs := [(l ++ m)[k]]) zM ?_
 refine zR 3 ?_
 refine go_elem_fa (xs := [(l ++ m)[k]]) zM (0) (List.getElem?_eq_getElem (by simp)) (fun b9 o9 A9' c9' hA => ?_); cases hA
 refine zY 0 [1, 4, 7, 10, 13, 16, 22, 25, 28, 20, 32, 33, 37, 40, 43, 46, 49, 52, 55, 59, 60, 64, 67, 70, 73, 76, 79, 82, 94, 97, 100, 86, 92, 104, 87, 105, 109, 112] ?_
 refine zR 3 ?_
 refine go_re 85 (.bool false) (by show some (Value.bool _) = _; first | rfl | simp) ?_
 refine zR 2 ?_
 refine go_val1 rfl (idx_val Tk rfl rfl rfl rfl rfl (by simp)) rfl ?_
 refine zI 2 ?_
 refine zK 0 ?_
 refine zK 0 ?_
 refine zC3 0 (refSameFact _ _ _ _ _ _ _ _) ?_
 refine zR 1 ?_
 refine go_re 95 (.bool false) (by show some (Value.bool _) = _; simp [cmpF_self]) ?_
 refine zI 5 ?_
 refine zK 0 ?_
 refine zC3 0 (queryIs _ c2 (l ++ m) (l ++ m)[k] A4 c4) ?_
 refine zR 1 ?_
 refine go_re 104 (.bool false) (by show some (Value.bool _) = _; simp) ?_
 refine zI 5 ?_
 refine zI 2 ?_
 refine zK 0 ?_
 refine zK 0 ?_
 refine zK 0 ?_
 refine go_call (queryIs A5 c5 (fof ((l ++ m).filter (mtch t))) (l ++ m)[k] A4 c4) rfl rfl (by rfl) rfl zM zM (fun _ v Ps' Os' hq => by obtain ⟨rfl, rfl, rfl⟩ := hq; exact satS zM zM) ?_
 rintro _ _ _ ⟨rfl, rfl, rfl⟩
 refine zC3 0 (refMatch t TA tc (l ++ m)[k] A4 c4) ?_
 refine zR 1 ?_
 refine go_re 119 (.bool false) (by show some (Value.bool _) = _; rw [is_ask hxl]; rfl) ?_
 refine zE 2 [5, 7, 9, 12, 87, 88, 89, 90, 91, 92, 93, 94, 95, 98, 99, 100, 101, 102, 103, 104, 107, 108, 109, 110, 111, 112, 113, 114, 115, 116, 117, 118, 119, 120] ?_
 refine zDf 0 ?_
 refine zR 7 ?_
 refine go_i64 12 rfl (by omega) (by omega) ?_
 refine zz (k + 1) (by omega) (by omega)
end Go.Proofs.Ytmomkfedcmogmaa.SL
namespace Go.Proofs.Ytmomkfedcmogmaa.SL
open Go.RowKit Go.Deep
def Opens (P : Program) (t : TypeId) {α : Type} (T : Ty α) (G : α → Prop) : Prop :=
  ∀ {H : Type} {enc : TypeId × Value → H} {W : World} {base : Nat} {sp : Nat → Bool} {hd : Bool} {fuel : Nat} {cs : List Value} {x : DataW H × List MemPlace}, DataW.trod enc P W base sp hd fuel t cs = some x → ∃ v, T.rep (hpOf W) v cs ∧ G v
theorem wf_u32 {n : Int} (h : (Lit.int .u32 n).wf = true) : 0 ≤ n ∧ n < 4294967296 := by
  simp [Lit.wf, IntKind.min, IntKind.max, IntKind.signed, IntKind.bits] at h; omega
theorem wf_u8 {n : Int} (h : (Lit.int .u8 n).wf = true) : 0 ≤ n ∧ n < 256 := by
  simp [Lit.wf, IntKind.min, IntKind.max, IntKind.signed, IntKind.bits] at h; omega
section
variable {P : Program}
theorem opens_int {t : TypeId} {k : IntKind} (ht : P.underlying t = some (.int k)) : Opens P t (tInt k) (fun n => (Lit.int k n).wf = true) := fun h => by
  obtain ⟨n, rfl, _, hw⟩ := DataW.trod_int ht h
  exact ⟨n, rfl, hw⟩
theorem opens_bool {t : TypeId} (ht : P.underlying t = some .bool) : Opens P t tBool (fun _ => True) := fun h => by
  obtain ⟨n, rfl, _⟩ := DataW.trod_bool ht h
  exact ⟨n, rfl, trivial⟩
theorem opens_iso {t : TypeId} {α β : Type} {T : Ty β} {G : β → Prop} {G' : α → Prop} (f : α → β) (g : β → α) (o : Opens P t T G) (hg : ∀ b, f (g b) = b) (hG : ∀ b, G b → G' (g b)) : Opens P t (tIso T f) G' := fun h => by
  obtain ⟨v, r, q⟩ := o h
  exact ⟨g v, by show T.rep _ (f (g v)) _; rw [hg]; exact r, hG v q⟩
theorem opens_pair {t : TypeId} {f0 f1 : Field} {α β : Type} {T : Ty α} {U : Ty β} {G : α → Prop} {K : β → Prop} (ht : P.underlying t = some (.struct #[f0, f1])) (o0 : Opens P f0.type T G) (o1 : Opens P f1.type U K)
    (h0 : f0.offset = 0) (h1 : f1.offset = T.size) (c0 : P.cellsOf f0.type = T.size) (c1 : P.cellsOf f1.type = U.size) (ct : P.cellsOf t = T.size + U.size) : Opens P t (tPair T U) (fun x => G x.1 ∧ K x.2) := fun h => by
  obtain ⟨xs, n, _, rfl, hl, hlen, hf⟩ := DataW.trod_struct ht h
  match xs, hlen with
  | [y0, y1], _ =>
    have e0 := hf 0 f0 rfl
    have e1 := hf 1 f1 rfl
    obtain ⟨v0, r0, g0⟩ := o0 (by simpa using e0)
    obtain ⟨v1, r1, g1⟩ := o1 (by simpa using e1)
    refine ⟨(v0, v1), ⟨_, _, ?_, r0, r1⟩, g0, g1⟩
    rw [h0, h1, c0, c1, List.drop_zero]
    rw [ct] at hl
    rw [List.take_of_length_le (l := List.drop _ _) (by simp; omega), List.take_append_drop]
theorem opens_slice {t e : TypeId} {α : Type} {T : Ty α} {G : α → Prop} (ht : P.underlying t = some (.slice e)) (o : Opens P e T G) (hc : P.cellsOf e = T.size) (hp : 0 < T.size) : Opens P t (tSl T) (fun xs => ∀ x ∈ xs, G x) := fun {H enc W base sp hd fuel cs x} h => by
  rcases open_slice ht h with ⟨rfl, _⟩ | ⟨a, len, cap, m, n, D, Pl, rfl, hb, hl, hm, hmm, rfl, hx⟩
  · exact ⟨[], ⟨none, 0, rfl, by simp, by simp [maxLen], fun _ => rfl, fun j x hj => by simp at hj⟩, fun x hx => by cases hx⟩
  · have hlm : len ≤ m := by rw [hmm]; split <;> omega
    have el : ∀ i, i < len → ∃ v, (∃ cs, T.rep (hpOf W) v cs ∧ W.cells? base (a.add (i * T.size)) T.size = some cs) ∧ G v := fun i hi => by
      obtain ⟨cs', h1, h2⟩ := hx i (by omega)
      obtain ⟨v, r, g⟩ := o h2
      rw [hc] at h1
      exact ⟨v, ⟨cs', r, h1⟩, g⟩
    have ex : ∃ xs : List α, xs.length = len ∧ ∀ i x, xs[i]? = some x → (∃ cs, T.rep (hpOf W) x cs ∧ W.cells? base (a.add (i * T.size)) T.size = some cs) ∧ G x := by
      have key : ∀ k, k ≤ len → ∃ xs : List α, xs.length = k ∧ ∀ i x, xs[i]? = some x → (∃ cs, T.rep (hpOf W) x cs ∧ W.cells? base (a.add (i * T.size)) T.size = some cs) ∧ G x := by
        intro k
        induction k with
        | zero => exact fun _ => ⟨[], rfl, fun i x hx => by simp at hx⟩
        | succ k ih =>
          intro hk
          obtain ⟨xs, h1, h2⟩ := ih (by omega)
          obtain ⟨v, hv⟩ := el k (by omega)
          refine ⟨xs ++ [v], by simp [h1], fun i x hx => ?_⟩
          rw [List.getElem?_append] at hx
          split at hx
          · exact h2 i x hx
          · rename_i hlt
            have : i = k := by
              rcases Nat.eq_or_lt_of_le (show xs.length ≤ i by omega) with q | q
              · omega
              · rw [List.getElem?_eq_none (by simp; omega)] at hx; cases hx
            subst this
            simp [h1] at hx
            subst hx
            exact hv
      exact key len (Nat.le_refl _)
    obtain ⟨xs, h1, h2⟩ := ex
    refine ⟨xs, ⟨some a, cap, by rw [h1], by omega, hm, fun e => (by cases e), fun j x hj => ?_⟩, fun x hx => ?_⟩
    · obtain ⟨⟨cs, r, hcs⟩, _⟩ := h2 j x hj
      obtain ⟨_, hln, hget⟩ := World.cells?_some hcs
      have hspot : a.spot = none := by
        obtain ⟨v0, hv0⟩ : ∃ v, xs[0]? = some v := by
          cases xs with
          | nil => simp at hj
          | cons v l => exact ⟨v, rfl⟩
        obtain ⟨⟨cs0, _, hcs0⟩, _⟩ := h2 0 v0 hv0
        obtain ⟨_, hln0, hget0⟩ := World.cells?_some hcs0
        have := hget0 0 hp
        rw [List.getElem?_eq_getElem (by omega)] at this
        simp only [Nat.zero_mul, Addr.add, if_true, World.cell?] at this
        split at this
        · cases hs : a.spot with
          | none => rfl
          | some q => rw [hs] at this; simp at this
        · cases this
      obtain ⟨b, oo, sp0⟩ := a
      cases hspot
      refine ⟨b, oo, cs, rfl, r, fun i v hi => ?_⟩
      have hlt : i < T.size := by
        rw [← hln]
        rcases Nat.lt_or_ge i cs.length with q | q
        · exact q
        · simp [q] at hi
      have := hget i hlt
      rw [run_addOff, run_addOff, hi] at this
      unfold World.cell? at this
      unfold cellH hpOf
      rw [Nat.add_assoc] at this
      simp only at this ⊢
      split at this
      · rename_i e
        simp only [e]
        simpa using this
      · cases this
    · obtain ⟨j, hj, rfl⟩ := List.getElem_of_mem hx
      exact (h2 j _ (List.getElem?_eq_getElem hj)).2
theorem Spec.law {f : FuncId} {args : Array Value} {Ps : List PA} (s : Spec P f args Ps [] (fun v Ps' Os' => v = .bool true ∧ Ps' = [] ∧ Os' = [])) (W : World) (h : ∀ p, p ∈ Ps → p.p (hpOf W)) :
    Calls P f args W fun e W' => e = .returned (.bool true) ∧ Below W.heap.size W W' := by
  refine (s.calls W (hpOf W) Heap.nil Heap.nil ⟨Heap.le_refl _, Heap.nil_le _, Heap.dj_symm (Heap.nil_dj _), h, trivial⟩ (Heap.nil_le _) (Heap.nil_dj _) (Heap.nil_dj _)).mono ?_
  rintro e w' ⟨v, hp', ho', Ps', Os', rfl, ⟨rfl, _, _⟩, hs, hle, _, _, _, hr⟩
  refine ⟨rfl, hr.os, hr.tape, hr.output, hr.size, fun k hk => ?_⟩
  have h1 : hpOf W k = some W.heap[k] := by simp [hpOf, hk]
  have h2 := hs.inp _ _ (hle _ _ h1)
  unfold hpOf at h1 h2
  rw [h1, h2]
theorem okWide_agg {t : TypeId} {fs : Array Field} {w : World} {r : Reach} {b : Nat} {v : Value} (ht : P.underlying t = some (.struct fs)) (h : Value.okWide P w r b t v) : ∃ cs : Array Value, v = .agg cs := by
  simp only [Value.okWide, ht] at h
  obtain ⟨cs, e, _⟩ := h
  exact ⟨cs, e⟩
end
end Go.Proofs.Ytmomkfedcmogmaa.SL
namespace Go.Proofs.Ytmomkfedcmogmaa.SL
theorem opU : Opens Try.prog 23 tU (fun n => 0 ≤ n ∧ n < 4294967296) := fun h => (opens_int Try.underlying23 h).imp fun v q => ⟨q.1, wf_u32 q.2⟩
theorem opUs : Opens Try.prog 27 (tSl tU) (fun xs => ∀ x ∈ xs, (fun n : Int => 0 ≤ n ∧ n < 4294967296) x) := opens_slice Try.underlying27 opU (by kernel_rfl) (by decide)
theorem opFa : Opens Try.prog 29 tFa Fa.ok := opens_iso (fun x : Fa => (x.p, x.a)) (fun b => ⟨b.1, b.2⟩) (opens_pair Try.underlying29 opU opUs rfl rfl (by kernel_rfl) (by kernel_rfl) (by kernel_rfl)) (fun b => rfl) (fun b g => g)
theorem opFas : Opens Try.prog 22 (tSl tFa) (fun xs => ∀ x ∈ xs, Fa.ok x) := opens_slice Try.underlying22 opFa (by kernel_rfl) (by decide)
theorem opTm : Opens Try.prog 37 tTm Tm.ok := opens_iso (fun x : Tm => (x.v, x.n)) (fun b => ⟨b.1, b.2⟩) (opens_pair Try.underlying37 (opens_bool Try.underlying4) opU rfl rfl (by kernel_rfl) (by kernel_rfl) (by kernel_rfl)) (fun b => rfl) (fun b g => g.2)
theorem opTms : Opens Try.prog 24 (tSl tTm) (fun xs => ∀ x ∈ xs, Tm.ok x) := opens_slice Try.underlying24 opTm (by kernel_rfl) (by decide)
theorem opAm : Opens Try.prog 26 tAm Am.ok := opens_iso (fun x : Am => (x.p, x.a)) (fun b => ⟨b.1, b.2⟩) (opens_pair Try.underlying26 opU opTms rfl rfl (by kernel_rfl) (by kernel_rfl) (by kernel_rfl)) (fun b => rfl) (fun b g => g)
end Go.Proofs.Ytmomkfedcmogmaa.SL
namespace Go.Proofs.Ytmomkfedcmogmaa.SL
open Go
theorem lawQueryParts (l : List Fa) (LA : Option Addr) (lc : Nat) (gl : ∀ x ∈ l, x.ok) (t : Am) (TA : Option Addr) (tc : Nat) (gt : t.ok) (u : Int) (hu : 0 ≤ u ∧ u < 256) :
    Spec Try.prog 4 #[.slice LA l.length lc, .agg #[.int .u32 t.p, .slice TA t.a.length tc], .int .u8 u] [sl tFa LA lc l, sl tTm TA tc t.a] [] (fun v Ps' Os' => v = .bool true ∧ Ps' = [] ∧ Os' = []) := by
 refine zSp [.slice LA l.length lc, .agg #[.int .u32 t.p, .slice TA t.a.length tc], .int .u8 u] Try.func4 Try.ntmps4 (fun w0 hp0 hf0 => ?_)
 refine zX 2 ?_
 intro bt
 refine go_freeze_pt (b := bt) zM ?_
 refine zR 4 ?_
 refine go_len (xs := l) zM (fun ll ml => ?_)
 refine go_len (xs := t.a) zM (fun lt mt => ?_)
 refine zL 2 ?_
 refine zC3 0 (lawFew16 LA lc l t TA tc) ?_
 refine zG 2 24 ?_ ?_
 ·intro f1
  (try simp only [dcs, ne_eq] at f1)
  refine zDt 6 ?_
  refine zC3 2 lawWorks16 ?_
  refine zE 2 [6] ?_
  refine zT 0 rfl ⟨rfl, rfl, rfl⟩
 intro f1
 (try simp only [dcs, ne_eq] at f1)
 refine zL 1 ?_
 refine zB 4 ?_ ?_
 ·intro f2
  (try simp only [dcs, ne_eq] at f2)
  refine zC3 2 lawWorks16 ?_
  refine zE 2 [6] ?_
  refine zT 0 rfl ⟨rfl, rfl, rfl⟩
 intro f2
 (try simp only [dcs, ne_eq] at f2)
 refine zR 2 ?_
 obtain ⟨hn, hta, hb⟩ := fewQ_iff.1 f1
 have hN : l.length ≤ 1000000 := by omega
 have hB : ∀ x ∈ l, x.a.length ≤ 100000 := fun x hx => Nat.le_trans (hb x hx) (by omega)
 have ha : ∀ x ∈ t.a, 0 ≤ x.n := fun x hx => (gt.2 x hx).1
 have hm : t.a.length ≤ 1000000 := by omega
 have hal := args_len hb
 obtain ⟨j0, hj0, he⟩ := rem_idx (n := t.a.length) hu.1 (by omega)
 have hjt : t.a[j0]? = some t.a[j0] := List.getElem?_eq_getElem hj0
 refine go_elem_tm (xs := t.a) zM (j0) (List.getElem?_eq_getElem (by omega)) (fun b3 o3 hA => ?_); cases hA
 refine zY 0 [1, 7, 10, 13, 5, 17, 19, 22, 25, 29, 30, 33] ?_
 refine zR 3 ?_
 refine go_i64 34 rfl (by omega) (by omega) ?_
 refine zK 1 ?_
 refine zK 0 ?_
 refine zR 1 ?_
 refine go_val1 rfl (rem_val rfl rfl rfl (by omega)) rfl ?_
 refine go_re 38 (.int .i64 (j0 : Int)) (by show some _ = _; rw [he]) ?_
 refine zI 0 ?_
 refine zK 0 ?_
 refine go_alloc Tk rfl rfl rfl (by rfl) rfl rfl (fun _ _ => satA) ?_
 intro bv
 refine zS 0 ?_
 refine zR 1 ?_
 refine go_freeze_pt (b := bv) zM ?_
 refine zE 0 [0, 4, 7] ?_
 refine zL 4 ?_
 refine zB 2 ?_ ?_
 ·intro hv
  (try simp only [dcs, ne_eq] at hv)
  refine zC3 2 lawWorks16 ?_
  refine zT 2 rfl ⟨rfl, rfl, rfl⟩
 intro hv
 (try simp only [dcs, ne_eq] at hv)
 have hv : t.a[j0].v = true := by simpa using hv
 refine zR 4 ?_
 refine go_own_nil tU 23 none ?_
 rw [show ([] : List Int) = syms (args (l.take 0)) from by simp [args, syms]]
 refine go_re 8 (.slice none (syms (args (l.take 0))).length 0) (by simp [args, syms]; rfl) ?_
 refine zR 7 ?_
 refine zO (X := Nat × Option Addr × Nat) (fun x => [(8, .slice x.2.1 (syms (args (l.take x.1))).length x.2.2), (9, .int .i64 (x.1 : Int))]) [0, 4, 7] (fun x => [ol tU 23 x.2.1 x.2.2 (syms (args (l.take x.1)))]) (fun x => x.1 ≤ l.length) (fun x => l.length - x.1) (0, none, 0) (by omega) ?_
 intro ⟨i, A1, c1⟩ hi
 simp only at hi ⊢
 refine zD 8 ?_ ?_
 ·intro hq1
  refine zR 4 ?_
  refine go_elem_fa (xs := l) zM (i) (List.getElem?_eq_getElem (by omega)) (fun b4 o4 A4 c4 hA => ?_); cases hA
  refine go_len (xs := l[i].a) zM (fun li mi => ?_)
  have hbi := hb l[i] (List.getElem_mem _)
  rw [syms_row0 (l := l) (i := i) (by omega)]
  refine zR 4 ?_
  refine zO (X := Nat × Option Addr × Nat) (fun x => [(8, .slice x.2.1 (syms (args (l.take i) ++ l[i].a.take x.1)).length x.2.2), (10, .int .i64 (x.1 : Int))]) [0, 4, 7, 9] (fun x => [ol tU 23 x.2.1 x.2.2 (syms (args (l.take i) ++ l[i].a.take x.1))]) (fun x => x.1 ≤ l[i].a.length) (fun x => l[i].a.length - x.1) (0, A1, c1) (by omega) ?_
  intro ⟨k, A5, c5⟩ hk
  simp only at hk ⊢
  have hsl := syms_part (l := l) (i := i) (k := k) hb (by omega)
  refine zI 6 ?_
  refine zL 1 ?_
  refine zD' 3 ?_ ?_
  ·intro hq2
   refine zR 7 ?_
   refine go_i64 9 rfl (by omega) (by omega) ?_
   rw [syms_row (by omega) (by omega)]
   refine go_back (i + 1, _, _) zA zM zM (by show i + 1 ≤ _; omega) (by show l.length - (i + 1) < l.length - i; omega)
  intro hq2
  refine zR 4 ?_
  refine go_elem_int (xs := l[i].a) zM (k) (List.getElem?_eq_getElem (by omega)) (fun b6 o6 hA => ?_); cases hA
  refine zR 2 ?_
  refine go_re 11 (.bool (decide (l[i].a[k] ∈ (syms (args (l.take i) ++ l[i].a.take k)).take 0))) (by show some (Value.bool false) = _; simp) ?_
  refine zR 7 ?_
  refine zO (X := Nat) (fun j => [(11, .bool (decide (l[i].a[k] ∈ (syms (args (l.take i) ++ l[i].a.take k)).take j))), (12, .int .i64 (j : Int))]) [0, 4, 7, 8, 9, 10] (fun _ => []) (fun j => j ≤ (syms (args (l.take i) ++ l[i].a.take k)).length) (fun j => (syms (args (l.take i) ++ l[i].a.take k)).length - j) 0 (by omega) ?_
  intro j hj
  refine zD' 8 ?_ ?_
  ·intro hq3
   refine zR 2 ?_
   refine go_re 11 (.bool (decide (l[i].a[k] ∈ syms (args (l.take i) ++ l[i].a.take k)))) (by show some _ = _; rw [List.take_of_length_le (by omega)]) ?_
   refine zB' 4 ?_ ?_
   ·intro hx
    (try simp only [dcs, ne_eq] at hx)
    refine zR 7 ?_
    refine go_i64 10 rfl (by omega) (by omega) ?_
    rw [← syms_old (by omega) hx]
    refine go_back (k + 1, _, _) zA zM zM (by show k + 1 ≤ _; omega) (by show l[i].a.length - (k + 1) < l[i].a.length - k; omega)
   intro hx
   (try simp only [dcs, ne_eq] at hx)
   refine zI 4 ?_
   refine zL 1 ?_
   refine zI 1 ?_
   refine zL 0 ?_
   refine zV 0 ?_
   intro bn
   refine go_append1 (T := tU) (xs := syms (args (l.take i) ++ l[i].a.take k)) Tk (l[i].a[k]) rfl rfl rfl rfl rfl rfl rfl rfl rfl zM zM rfl ent_int (by omega) zH ?_
   intro A8 c8
   refine zE 2 [0, 4, 7, 8, 9, 10] ?_
   refine zR 6 ?_
   refine go_i64 10 rfl (by omega) (by omega) ?_
   rw [← syms_new (by omega) hx]
   refine go_back (k + 1, _, _) zA zM zM (by show k + 1 ≤ _; omega) (by show l[i].a.length - (k + 1) < l[i].a.length - k; omega)
  intro hq3
  refine zR 3 ?_
  refine go_ol_addr (xs := syms (args (l.take i) ++ l[i].a.take k)) zM (by omega) (fun b7 hA => ?_); subst hA
  refine zY 0 [1, 4, 7, 10, 13, 19, 22, 25, 28, 34, 17, 32, 37, 41, 43, 46, 49] ?_
  refine zG 2 68 ?_ ?_
  ·intro g5
   (try simp only [dcs, ne_eq] at g5)
   refine zJ 8 ?_
   refine zJ 0 ?_
   refine zJ 1 ?_
   refine zR 10 ?_
   refine go_i64 12 rfl (by omega) (by omega) ?_
   refine go_re 11 (.bool (decide (l[i].a[k] ∈ (syms (args (l.take i) ++ l[i].a.take k)).take (j + 1)))) (by show some _ = _; first | rw [int_next_yes g5] | rw [int_next_no (by omega) g5]) ?_
   refine zz (j + 1) (by omega) (by omega)
  intro g5
  (try simp only [dcs, ne_eq] at g5)
  refine zI 2 ?_
  refine zI 2 ?_
  refine zR 2 ?_
  refine go_val2a rfl (load_val Tk rfl rfl rfl (at_olp (fun y : Int => [.int .u32 y]) fc_int (xs := syms (args (l.take i) ++ l[i].a.take k)) zM j (List.getElem?_eq_getElem (by omega)) rfl rfl) rfl) rfl ?_
  refine zK 0 ?_
  refine zI 0 ?_
  refine zK 0 ?_
  refine zR 10 ?_
  refine go_i64 12 rfl (by omega) (by omega) ?_
  refine go_re 11 (.bool (decide (l[i].a[k] ∈ (syms (args (l.take i) ++ l[i].a.take k)).take (j + 1)))) (by show some _ = _; first | rw [int_next_yes g5] | rw [int_next_no (by omega) g5]) ?_
  refine zz (j + 1) (by omega) (by omega)
 intro hq1
 refine zR 3 ?_
 rw [List.take_of_length_le (show l.length ≤ i by omega)]
 have hsl := syms_len (args l)
 refine zD 5 ?_ ?_
 ·intro h60
  refine zC3 2 lawWorks16 ?_
  refine zE 2 [6] ?_
  refine zT 0 rfl ⟨rfl, rfl, rfl⟩
 intro h60
 refine zR 2 ?_
 refine go_freeze_ol (A := A1) (xs := syms (args l)) zM ?_
 refine zL 2 ?_
 refine zC 0 (queryAsk LA lc l t (some ⟨b3, o3, none⟩) tc ha hm hN hB) ?_
 rintro _ _ _ ⟨A9, c9, rfl, rfl, rfl⟩
 refine go_freeze_ol (A := A9) (xs := fof (l.filter (mtch t))) zM ?_
 refine zR 12 ?_
 refine zO (X := Nat) (fun k => [(14, .int .i64 (parts l t t.a[j0] ((syms (args l)).take k) : Int)), (15, .int .i64 (k : Int))]) [0, 4, 7, 8, 13] (fun _ => []) (fun k => k ≤ (syms (args l)).length) (fun k => (syms (args l)).length - k) 0 (by omega) ?_
 intro k hk
 have hpb := parts_le (l := l) (a := t) (t := t.a[j0]) (S := (syms (args l)).take k)
 have hpk : ((syms (args l)).take k).length ≤ 60 := by rw [List.length_take]; omega
 have hpm := Nat.mul_le_mul hpk hn
 refine zD' 8 ?_ ?_
 ·intro hq4
  refine zR 2 ?_
  rw [List.take_of_length_le (show (syms (args l)).length ≤ k by omega), parts_all hjt hv]
  refine zR 5 ?_
  refine go_re 162 (.bool true) (by show some (Value.bool _) = _; first | rfl | simp) ?_
  refine zC3 1 lawWorks16 ?_
  refine zE 3 [6] ?_
  refine zT 0 rfl ⟨rfl, rfl, rfl⟩
 intro hq4
 refine zR 4 ?_
 refine go_draw ([cl bt 0 [.int .u32 t.p, .slice (some ⟨b3, o3, none⟩) t.a.length tc]]) ([]) [1, 4] (SL.pre [(1, 0), (1, 3), (2, 1), (2, 4)] (.two (SL.pre [(0, 2)] (.two (SL.pre [(0, 5), (1, 6), (0, 7), (0, 8)] .nil) (SL.pre [(0, 7), (0, 5), (1, 6), (0, 8)] .nil))) (SL.pre [(0, 7), (0, 2), (0, 5), (1, 6), (0, 8)] .nil))) mixed rfl (by kernel_rfl) ?_
 refine zK 2 ?_
 refine zK 0 ?_
 refine go_two ?_ ?_
 ·skip
  refine go_bslice Tk rfl rfl rfl rfl rfl rfl rfl rfl (fun _ _ => satA) ?_
  intro bc
  refine go_lit_ol (b := bc) tTm [] zM (fun _ _ => rfl) (by simp) ?_
  refine go_two ?_ ?_
  ·skip
   refine go_appendN (T := tTm) (xs := []) (ys := t.a) Tk rfl rfl rfl rfl rfl rfl rfl rfl rfl zM rfl zM (by simp; omega) zH ?_
   intro B1 d1
   rw [List.nil_append t.a]
   refine go_val1 rfl (fun a w hp ho hf hs => build_val Tk rfl rfl rfl (by rfl) a w hf) rfl ?_
   refine go_alloc Tk rfl rfl rfl (by rfl) rfl rfl (fun _ _ => satA) ?_
   intro ba
   refine zS 0 ?_
   refine zR 3 ?_
   refine go_ol_addr (xs := t.a) zM (by omega) (fun b1 hA => ?_); subst hA
   refine go_imp (ol tTm 37 (some ⟨b1, 0, none⟩) d1 t.a) [ol tTm 37 (some ⟨b1, 0, none⟩) d1 (subs t.a t.a[j0] (syms (args l))[k] 0)] zM (fun _ _ q => sep_one (by simpa [subs] using q)) ?_
   refine zR 4 ?_
   refine zO (X := Nat) (fun n => [(17, .int .i64 (n : Int))]) [0, 4, 7, 8, 13, 14, 15, 16] (fun n => [ol tTm 37 (some ⟨b1, 0, none⟩) d1 (subs t.a t.a[j0] (syms (args l))[k] n)]) (fun n => n ≤ t.a.length) (fun n => t.a.length - n) 0 (by omega) ?_
   intro n hn2
   have hsl2 := subs_len t.a t.a[j0] (syms (args l))[k] n
   refine zL 5 ?_
   refine zD 3 ?_ ?_
   ·intro hq5
    refine zY 4 [1, 7, 5, 10, 14, 17, 19] ?_
    refine zK 2 ?_
    refine zI 0 ?_
    refine go_val2a rfl (load_val Tk rfl rfl rfl (at_olp fcT fcT_eq (xs := subs t.a t.a[j0] (syms (args l))[k] n) zM n (subs_get (by omega)) rfl rfl) rfl) rfl ?_
    refine zK 0 ?_
    refine go_val1 rfl (seq_val Tk rfl rfl rfl rfl (by rfl) rfl (by kernel_rfl) (by kernel_rfl)) rfl ?_
    refine go_re 129 (.bool (decide (t.a[j0] = t.a[n]))) (by show some _ = _; rw [tm_eq]) ?_
    refine zB' 1 ?_ ?_
    ·intro g6
     (try simp only [dcs, ne_eq] at g6)
     refine zR 7 ?_
     refine go_i64 17 rfl (by omega) (by omega) ?_
     refine go_imp (ol tTm 37 (some ⟨b1, 0, none⟩) d1 (subs t.a t.a[j0] (syms (args l))[k] n)) [ol tTm 37 (some ⟨b1, 0, none⟩) d1 (subs t.a t.a[j0] (syms (args l))[k] (n + 1))] zM (fun _ _ q => sep_one (by rw [subs_no (by omega) g6]; exact q)) ?_
     refine zz (n + 1) (by omega) (by omega)
    intro g6
    (try simp only [dcs, ne_eq] at g6)
    refine go_elem_int (xs := syms (args l)) zM k (List.getElem?_eq_getElem (by omega)) (fun b8 o8 hA => ?_); cases hA
    refine zY 0 [1, 7, 10, 13, 16, 5, 20, 22, 25, 27] ?_
    refine zI 4 ?_
    refine zK 0 ?_
    refine zK 0 ?_
    refine go_val1 rfl (fun a w hp ho hf hs => build_val Tk rfl rfl rfl (by rfl) a w hf) rfl ?_
    refine zI 0 ?_
    refine go_store_el (T := tTm) (xs := subs t.a t.a[j0] (syms (args l))[k] n) (j := n) Tk (⟨false, (syms (args l))[k]⟩ : Tm) rfl rfl rfl rfl rfl rfl zM (by omega) rfl rfl ent_tm (by first | exact zF | exact zQ) ?_
    refine zE 1 [0, 4, 7, 8, 13, 14, 15, 16, 17] ?_
    refine zR 6 ?_
    refine go_i64 17 rfl (by omega) (by omega) ?_
    refine go_imp (ol tTm 37 (some ⟨b1, 0, none⟩) d1 ((subs t.a t.a[j0] (syms (args l))[k] n).set n ⟨false, (syms (args l))[k]⟩)) [ol tTm 37 (some ⟨b1, 0, none⟩) d1 (subs t.a t.a[j0] (syms (args l))[k] (n + 1))] zM (fun _ _ q => sep_one (by rw [subs_yes (by omega) g6]; exact q)) ?_
    refine zz (n + 1) (by omega) (by omega)
   intro hq5
   refine zR 2 ?_
   obtain rfl : n = t.a.length := by omega
   refine go_imp (ol tTm 37 (some ⟨b1, 0, none⟩) d1 (subs t.a t.a[j0] (syms (args l))[k] t.a.length)) [ol tTm 37 (some ⟨b1, 0, none⟩) d1 (subA t t.a[j0] (syms (args l))[k]).a] zM (fun _ _ q => sep_one (by rw [← subs_all]; exact q)) ?_
   have hsa : (subA t t.a[j0] (syms (args l))[k]).a.length = t.a.length := by simp [subA]
   refine go_freeze_ol (xs := (subA t t.a[j0] (syms (args l))[k]).a) zM ?_
   have hs0 : 0 ≤ (syms (args l))[k] := syms_ok gl (List.getElem_mem _)
   refine zL 2 ?_
   refine go_re 140 (.agg #[.int .u32 (subA t t.a[j0] (syms (args l))[k]).p, .slice (some ⟨b1, 0, none⟩) (subA t t.a[j0] (syms (args l))[k]).a.length d1]) (by show some _ = some _; rw [hsa]; rfl) ?_
   refine zC 0 (queryAsk LA lc l (subA t t.a[j0] (syms (args l))[k]) (some ⟨b1, 0, none⟩) d1 (subA_ok ha hs0) (by omega) hN hB) ?_
   rintro _ _ _ ⟨B2, d2, rfl, rfl, rfl⟩
   refine go_freeze_ol (A := B2) (xs := fof (l.filter (mtch (subA t t.a[j0] (syms (args l))[k])))) zM ?_
   refine zR 4 ?_
   refine go_len (xs := fof (l.filter (mtch (subA t t.a[j0] (syms (args l))[k])))) zM (fun ly my => ?_)
   refine zR 4 ?_
   refine zO (X := Nat) (fun m => [(19, .int .i64 (m : Int))]) [0, 4, 7, 8, 13, 14, 15, 18] (fun _ => []) (fun m => m ≤ (fof (l.filter (mtch (subA t t.a[j0] (syms (args l))[k])))).length) (fun m => (fof (l.filter (mtch (subA t t.a[j0] (syms (args l))[k])))).length - m) 0 (by omega) ?_
   intro m hm3
   refine zD' 8 ?_ ?_
   ·intro hq6
    refine zR 1 ?_
    have hys : (fof (l.filter (mtch (subA t t.a[j0] (syms (args l))[k])))).length ≤ l.length := Nat.le_trans (fof_len _) (List.length_filter_le _ _)
    refine zR 5 ?_
    refine go_i64 158 rfl (by omega) (by omega) ?_
    refine zR 8 ?_
    refine go_i64 15 rfl (by omega) (by omega) ?_
    refine go_re 14 (.int .i64 (parts l t t.a[j0] ((syms (args l)).take (k + 1)) : Int)) (by show some (Value.int _ _) = _; rw [parts_next (by omega)]; rfl) ?_
    refine zz (k + 1) (by omega) (by omega)
   intro hq6
   refine zR 4 ?_
   refine go_elem_fa (xs := fof (l.filter (mtch (subA t t.a[j0] (syms (args l))[k])))) zM (m) (List.getElem?_eq_getElem (by omega)) (fun b9 o9 A9' c9' hA => ?_); cases hA
   refine zI 4 ?_
   refine zL 0 ?_
   refine zC3 0 (ref13Has A9 c9 (fof (l.filter (mtch t))) (fof (l.filter (mtch (subA t t.a[j0] (syms (args l))[k]))))[m] A9' c9') ?_
   refine zR 1 ?_
   refine go_re 154 (.bool false) (by show some (Value.bool _) = _; simp [part_in hjt hv (List.getElem_mem _)]) ?_
   refine zDf 1 ?_
   refine zR 7 ?_
   refine go_i64 19 rfl (by omega) (by omega) ?_
   refine zz (m + 1) (by omega) (by omega)
  refine go_alloc Tk rfl rfl rfl (by rfl) rfl rfl (fun _ _ => satA) ?_
  intro ba
  refine go_appendN (T := tTm) (xs := []) (ys := t.a) Tk rfl rfl rfl rfl rfl rfl rfl rfl rfl zM rfl zM (by simp; omega) zH ?_
  intro B1 d1
  rw [List.nil_append t.a]
  refine go_val1 rfl (fun a w hp ho hf hs => build_val Tk rfl rfl rfl (by rfl) a w hf) rfl ?_
  refine zS 0 ?_
  refine zR 3 ?_
  refine go_ol_addr (xs := t.a) zM (by omega) (fun b1 hA => ?_); subst hA
  refine go_imp (ol tTm 37 (some ⟨b1, 0, none⟩) d1 t.a) [ol tTm 37 (some ⟨b1, 0, none⟩) d1 (subs t.a t.a[j0] (syms (args l))[k] 0)] zM (fun _ _ q => sep_one (by simpa [subs] using q)) ?_
  refine zR 4 ?_
  refine zO (X := Nat) (fun n => [(17, .int .i64 (n : Int))]) [0, 4, 7, 8, 13, 14, 15, 16] (fun n => [ol tTm 37 (some ⟨b1, 0, none⟩) d1 (subs t.a t.a[j0] (syms (args l))[k] n)]) (fun n => n ≤ t.a.length) (fun n => t.a.length - n) 0 (by omega) ?_
  intro n hn2
  have hsl2 := subs_len t.a t.a[j0] (syms (args l))[k] n
  refine zL 5 ?_
  refine zD 3 ?_ ?_
  ·intro hq7
   refine zY 4 [1, 7, 5, 10, 14, 17, 19] ?_
   refine zK 2 ?_
   refine zI 0 ?_
   refine go_val2a rfl (load_val Tk rfl rfl rfl (at_olp fcT fcT_eq (xs := subs t.a t.a[j0] (syms (args l))[k] n) zM n (subs_get (by omega)) rfl rfl) rfl) rfl ?_
   refine zK 0 ?_
   refine go_val1 rfl (seq_val Tk rfl rfl rfl rfl (by rfl) rfl (by kernel_rfl) (by kernel_rfl)) rfl ?_
   refine go_re 129 (.bool (decide (t.a[j0] = t.a[n]))) (by show some _ = _; rw [tm_eq]) ?_
   refine zB' 1 ?_ ?_
   ·intro g6
    (try simp only [dcs, ne_eq] at g6)
    refine zR 7 ?_
    refine go_i64 17 rfl (by omega) (by omega) ?_
    refine go_imp (ol tTm 37 (some ⟨b1, 0, none⟩) d1 (subs t.a t.a[j0] (syms (args l))[k] n)) [ol tTm 37 (some ⟨b1, 0, none⟩) d1 (subs t.a t.a[j0] (syms (args l))[k] (n + 1))] zM (fun _ _ q => sep_one (by rw [subs_no (by omega) g6]; exact q)) ?_
    refine zz (n + 1) (by omega) (by omega)
   intro g6
   (try simp only [dcs, ne_eq] at g6)
   refine go_elem_int (xs := syms (args l)) zM k (List.getElem?_eq_getElem (by omega)) (fun b8 o8 hA => ?_); cases hA
   refine zY 0 [1, 7, 10, 13, 16, 5, 20, 22, 25, 27] ?_
   refine zI 4 ?_
   refine zK 0 ?_
   refine zK 0 ?_
   refine go_val1 rfl (fun a w hp ho hf hs => build_val Tk rfl rfl rfl (by rfl) a w hf) rfl ?_
   refine zI 0 ?_
   refine go_store_el (T := tTm) (xs := subs t.a t.a[j0] (syms (args l))[k] n) (j := n) Tk (⟨false, (syms (args l))[k]⟩ : Tm) rfl rfl rfl rfl rfl rfl zM (by omega) rfl rfl ent_tm (by first | exact zF | exact zQ) ?_
   refine zE 1 [0, 4, 7, 8, 13, 14, 15, 16, 17] ?_
   refine zR 6 ?_
   refine go_i64 17 rfl (by omega) (by omega) ?_
   refine go_imp (ol tTm 37 (some ⟨b1, 0, none⟩) d1 ((subs t.a t.a[j0] (syms (args l))[k] n).set n ⟨false, (syms (args l))[k]⟩)) [ol tTm 37 (some ⟨b1, 0, none⟩) d1 (subs t.a t.a[j0] (syms (args l))[k] (n + 1))] zM (fun _ _ q => sep_one (by rw [subs_yes (by omega) g6]; exact q)) ?_
   refine zz (n + 1) (by omega) (by omega)
  intro hq7
  refine zR 2 ?_
  obtain rfl : n = t.a.length := by omega
  refine go_imp (ol tTm 37 (some ⟨b1, 0, none⟩) d1 (subs t.a t.a[j0] (syms (args l))[k] t.a.length)) [ol tTm 37 (some ⟨b1, 0, none⟩) d1 (subA t t.a[j0] (syms (args l))[k]).a] zM (fun _ _ q => sep_one (by rw [← subs_all]; exact q)) ?_
  have hsa : (subA t t.a[j0] (syms (args l))[k]).a.length = t.a.length := by simp [subA]
  refine go_freeze_ol (xs := (subA t t.a[j0] (syms (args l))[k]).a) zM ?_
  have hs0 : 0 ≤ (syms (args l))[k] := syms_ok gl (List.getElem_mem _)
  refine zL 2 ?_
  refine go_re 140 (.agg #[.int .u32 (subA t t.a[j0] (syms (args l))[k]).p, .slice (some ⟨b1, 0, none⟩) (subA t t.a[j0] (syms (args l))[k]).a.length d1]) (by show some _ = some _; rw [hsa]; rfl) ?_
  refine zC 0 (queryAsk LA lc l (subA t t.a[j0] (syms (args l))[k]) (some ⟨b1, 0, none⟩) d1 (subA_ok ha hs0) (by omega) hN hB) ?_
  rintro _ _ _ ⟨B2, d2, rfl, rfl, rfl⟩
  refine go_freeze_ol (A := B2) (xs := fof (l.filter (mtch (subA t t.a[j0] (syms (args l))[k])))) zM ?_
  refine zR 4 ?_
  refine go_len (xs := fof (l.filter (mtch (subA t t.a[j0] (syms (args l))[k])))) zM (fun ly my => ?_)
  refine zR 4 ?_
  refine zO (X := Nat) (fun m => [(19, .int .i64 (m : Int))]) [0, 4, 7, 8, 13, 14, 15, 18] (fun _ => []) (fun m => m ≤ (fof (l.filter (mtch (subA t t.a[j0] (syms (args l))[k])))).length) (fun m => (fof (l.filter (mtch (subA t t.a[j0] (syms (args l))[k])))).length - m) 0 (by omega) ?_
  intro m hm3
  refine zD' 8 ?_ ?_
  ·intro hq8
   refine zR 1 ?_
   have hys : (fof (l.filter (mtch (subA t t.a[j0] (syms (args l))[k])))).length ≤ l.length := Nat.le_trans (fof_len _) (List.length_filter_le _ _)
   refine zR 5 ?_
   refine go_i64 158 rfl (by omega) (by omega) ?_
   refine zR 8 ?_
   refine go_i64 15 rfl (by omega) (by omega) ?_
   refine go_re 14 (.int .i64 (parts l t t.a[j0] ((syms (args l)).take (k + 1)) : Int)) (by show some (Value.int _ _) = _; rw [parts_next (by omega)]; rfl) ?_
   refine zz (k + 1) (by omega) (by omega)
  intro hq8
  refine zR 4 ?_
  refine go_elem_fa (xs := fof (l.filter (mtch (subA t t.a[j0] (syms (args l))[k])))) zM (m) (List.getElem?_eq_getElem (by omega)) (fun b9 o9 A9' c9' hA => ?_); cases hA
  refine zI 4 ?_
  refine zL 0 ?_
  refine zC3 0 (ref13Has A9 c9 (fof (l.filter (mtch t))) (fof (l.filter (mtch (subA t t.a[j0] (syms (args l))[k]))))[m] A9' c9') ?_
  refine zR 1 ?_
  refine go_re 154 (.bool false) (by show some (Value.bool _) = _; simp [part_in hjt hv (List.getElem_mem _)]) ?_
  refine zDf 1 ?_
  refine zR 7 ?_
  refine go_i64 19 rfl (by omega) (by omega) ?_
  refine zz (m + 1) (by omega) (by omega)
 refine go_alloc Tk rfl rfl rfl (by rfl) rfl rfl (fun _ _ => satA) ?_
 intro ba
 refine go_bslice Tk rfl rfl rfl rfl rfl rfl rfl rfl (fun _ _ => satA) ?_
 intro bc
 refine go_lit_ol (b := bc) tTm [] zM (fun _ _ => rfl) (by simp) ?_
 refine go_appendN (T := tTm) (xs := []) (ys := t.a) Tk rfl rfl rfl rfl rfl rfl rfl rfl rfl zM rfl zM (by simp; omega) zH ?_
 intro B1 d1
 rw [List.nil_append t.a]
 refine go_val1 rfl (fun a w hp ho hf hs => build_val Tk rfl rfl rfl (by rfl) a w hf) rfl ?_
 refine zS 0 ?_
 refine zR 3 ?_
 refine go_ol_addr (xs := t.a) zM (by omega) (fun b1 hA => ?_); subst hA
 refine go_imp (ol tTm 37 (some ⟨b1, 0, none⟩) d1 t.a) [ol tTm 37 (some ⟨b1, 0, none⟩) d1 (subs t.a t.a[j0] (syms (args l))[k] 0)] zM (fun _ _ q => sep_one (by simpa [subs] using q)) ?_
 refine zR 4 ?_
 refine zO (X := Nat) (fun n => [(17, .int .i64 (n : Int))]) [0, 4, 7, 8, 13, 14, 15, 16] (fun n => [ol tTm 37 (some ⟨b1, 0, none⟩) d1 (subs t.a t.a[j0] (syms (args l))[k] n)]) (fun n => n ≤ t.a.length) (fun n => t.a.length - n) 0 (by omega) ?_
 intro n hn2
 have hsl2 := subs_len t.a t.a[j0] (syms (args l))[k] n
 refine zL 5 ?_
 refine zD 3 ?_ ?_
 ·intro hq9
  refine zY 4 [1, 7, 5, 10, 14, 17, 19] ?_
  refine zK 2 ?_
  refine zI 0 ?_
  refine go_val2a rfl (load_val Tk rfl rfl rfl (at_olp fcT fcT_eq (xs := subs t.a t.a[j0] (syms (args l))[k] n) zM n (subs_get (by omega)) rfl rfl) rfl) rfl ?_
  refine zK 0 ?_
  refine go_val1 rfl (seq_val Tk rfl rfl rfl rfl (by rfl) rfl (by kernel_rfl) (by kernel_rfl)) rfl ?_
  refine go_re 129 (.bool (decide (t.a[j0] = t.a[n]))) (by show some _ = _; rw [tm_eq]) ?_
  refine zB' 1 ?_ ?_
  ·intro g6
   (try simp only [dcs, ne_eq] at g6)
   refine zR 7 ?_
   refine go_i64 17 rfl (by omega) (by omega) ?_
   refine go_imp (ol tTm 37 (some ⟨b1, 0, none⟩) d1 (subs t.a t.a[j0] (syms (args l))[k] n)) [ol tTm 37 (some ⟨b1, 0, none⟩) d1 (subs t.a t.a[j0] (syms (args l))[k] (n + 1))] zM (fun _ _ q => sep_one (by rw [subs_no (by omega) g6]; exact q)) ?_
   refine zz (n + 1) (by omega) (by omega)
  intro g6
  (try simp only [dcs, ne_eq] at g6)
  refine go_elem_int (xs := syms (args l)) zM k (List.getElem?_eq_getElem (by omega)) (fun b8 o8 hA => ?_); cases hA
  refine zY 0 [1, 7, 10, 13, 16, 5, 20, 22, 25, 27] ?_
  refine zI 4 ?_
  refine zK 0 ?_
  refine zK 0 ?_
  refine go_val1 rfl (fun a w hp ho hf hs => build_val Tk rfl rfl rfl (by rfl) a w hf) rfl ?_
  refine zI 0 ?_
  refine go_store_el (T := tTm) (xs := subs t.a t.a[j0] (syms (args l))[k] n) (j := n) Tk (⟨false, (syms (args l))[k]⟩ : Tm) rfl rfl rfl rfl rfl rfl zM (by omega) rfl rfl ent_tm (by first | exact zF | exact zQ) ?_
  refine zE 1 [0, 4, 7, 8, 13, 14, 15, 16, 17] ?_
  refine zR 6 ?_
  refine go_i64 17 rfl (by omega) (by omega) ?_
  refine go_imp (ol tTm 37 (some ⟨b1, 0, none⟩) d1 ((subs t.a t.a[j0] (syms (args l))[k] n).set n ⟨false, (syms (args l))[k]⟩)) [ol tTm 37 (some ⟨b1, 0, none⟩) d1 (subs t.a t.a[j0] (syms (args l))[k] (n + 1))] zM (fun _ _ q => sep_one (by rw [subs_yes (by omega) g6]; exact q)) ?_
  refine zz (n + 1) (by omega) (by omega)
 intro hq9
 refine zR 2 ?_
 obtain rfl : n = t.a.length := by omega
 refine go_imp (ol tTm 37 (some ⟨b1, 0, none⟩) d1 (subs t.a t.a[j0] (syms (args l))[k] t.a.length)) [ol tTm 37 (some ⟨b1, 0, none⟩) d1 (subA t t.a[j0] (syms (args l))[k]).a] zM (fun _ _ q => sep_one (by rw [← subs_all]; exact q)) ?_
 have hsa : (subA t t.a[j0] (syms (args l))[k]).a.length = t.a.length := by simp [subA]
 refine go_freeze_ol (xs := (subA t t.a[j0] (syms (args l))[k]).a) zM ?_
 have hs0 : 0 ≤ (syms (args l))[k] := syms_ok gl (List.getElem_mem _)
 refine zL 2 ?_
 refine go_re 140 (.agg #[.int .u32 (subA t t.a[j0] (syms (args l))[k]).p, .slice (some ⟨b1, 0, none⟩) (subA t t.a[j0] (syms (args l))[k]).a.length d1]) (by show some _ = some _; rw [hsa]; rfl) ?_
 refine zC 0 (queryAsk LA lc l (subA t t.a[j0] (syms (args l))[k]) (some ⟨b1, 0, none⟩) d1 (subA_ok ha hs0) (by omega) hN hB) ?_
 rintro _ _ _ ⟨B2, d2, rfl, rfl, rfl⟩
 refine go_freeze_ol (A := B2) (xs := fof (l.filter (mtch (subA t t.a[j0] (syms (args l))[k])))) zM ?_
 refine zR 4 ?_
 refine go_len (xs := fof (l.filter (mtch (subA t t.a[j0] (syms (args l))[k])))) zM (fun ly my => ?_)
 refine zR 4 ?_
 refine zO (X := Nat) (fun m => [(19, .int .i64 (m : Int))]) [0, 4, 7, 8, 13, 14, 15, 18] (fun _ => []) (fun m => m ≤ (fof (l.filter (mtch (subA t t.a[j0] (syms (args l))[k])))).length) (fun m => (fof (l.filter (mtch (subA t t.a[j0] (syms (args l))[k])))).length - m) 0 (by omega) ?_
 intro m hm3
 refine zD' 8 ?_ ?_
 ·intro hq10
  refine zR 1 ?_
  have hys : (fof (l.filter (mtch (subA t t.a[j0] (syms (args l))[k])))).length ≤ l.length := Nat.le_trans (fof_len _) (List.length_filter_le _ _)
  refine zR 5 ?_
  refine go_i64 158 rfl (by omega) (by omega) ?_
  refine zR 8 ?_
  refine go_i64 15 rfl (by omega) (by omega) ?_
  refine go_re 14 (.int .i64 (parts l t t.a[j0] ((syms (args l)).take (k + 1)) : Int)) (by show some (Value.int _ _) = _; rw [parts_next (by omega)]; rfl) ?_
  refine zz (k + 1) (by omega) (by omega)
 intro hq10
 refine zR 4 ?_
 refine go_elem_fa (xs := fof (l.filter (mtch (subA t t.a[j0] (syms (args l))[k])))) zM (m) (List.getElem?_eq_getElem (by omega)) (fun b9 o9 A9' c9' hA => ?_); cases hA
 refine zI 4 ?_
 refine zL 0 ?_
 refine zC3 0 (ref13Has A9 c9 (fof (l.filter (mtch t))) (fof (l.filter (mtch (subA t t.a[j0] (syms (args l))[k]))))[m] A9' c9') ?_
 refine zR 1 ?_
 refine go_re 154 (.bool false) (by show some (Value.bool _) = _; simp [part_in hjt hv (List.getElem_mem _)]) ?_
 refine zDf 1 ?_
 refine zR 7 ?_
 refine go_i64 19 rfl (by omega) (by omega) ?_
 refine zz (m + 1) (by omega) (by omega)
end Go.Proofs.Ytmomkfedcmogmaa.SL
namespace Go.Proofs.Ytmomkfedcmogmaa.SL
theorem sized_len {H : Type} {enc : TypeId × Value → H} {P : Program} {W : World} {base : Nat} {sp : Nat → Bool} {hd : Bool} {fuel : Nat} {ts : List TypeId} {ds : List (DataW H)} {j : Nat} {t e : TypeId} {cs : List Value} {x : DataW H × List MemPlace} {A : Option Addr} {n c : Nat}
    (h : (DataW.weightsEach P ts ds).all (· ≤ reachBytes) = true) (ht : ts[j]? = some t) (hd' : ds[j]? = some x.1) (hu : P.underlying t = some (.slice e)) (hx : DataW.trod enc P W base sp hd fuel t cs = some x) (hc : cs = [.slice A n c]) (hb : Nat.ble 1 (P.bytesOf e) = true) : n ≤ 140737488351232 := by
  subst hc
  rcases Deep.open_slice hu hx with ⟨h1, _⟩ | ⟨a, len, cap, m, q, D, Pl, h1, _, _, _, _, rfl, _⟩
  · cases h1; omega
  · cases h1
    have := sized_slice h ht hd' hu
    have hb' := Nat.le_of_ble_eq_true hb
    have h2 : n ≤ n * P.bytesOf e := Nat.le_mul_of_pos_right _ hb'
    simp only [List.length_map, List.length_range] at this
    rw [Nat.add_mul] at this
    have h3 : reachBytes = 140737488351232 := rfl
    omega
end Go.Proofs.Ytmomkfedcmogmaa.SL

