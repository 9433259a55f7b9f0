/- Plain laws of what is asked of facts: what the statements of stage 16 say. -/
import Derived.Test.YtdkfpgdfjnaciaaDA
set_option linter.unusedVariables false
set_option linter.unusedSimpArgs false
namespace Go.Proofs.Ytdkfpgdfjnaciaa.SL
theorem fof_snoc (l : List Fa) (x : Fa) : fof (l ++ [x]) = fput (fof l) x := by unfold fof; rw [List.foldl_append]; rfl
theorem fof_filter_yes {p : Fa → Bool} {l : List Fa} {k : Nat} (hk : k < l.length) (h : p l[k] = true) : fof ((l.take (k + 1)).filter p) = fput (fof ((l.take k).filter p)) l[k] := by rw [filter_yes hk h, fof_snoc]
theorem fof_filter_no {p : Fa → Bool} {l : List Fa} {k : Nat} (hk : k < l.length) (h : p l[k] = false) : fof ((l.take (k + 1)).filter p) = fof ((l.take k).filter p) := by rw [filter_no hk h]
def fewQ (l : List Fa) (a : Am) : Bool := decide (l.length ≤ 150 ∧ a.a.length ≤ 30 ∧ ∀ x ∈ l, x.a.length ≤ 30)
theorem fewQ_no1 {l : List Fa} {a : Am} (h : 150 < l.length ∨ 30 < a.a.length) : fewQ l a = false := by unfold fewQ; rw [decide_eq_false_iff_not]; rintro ⟨g1, g2, _⟩; omega
theorem fewQ_no2 {l : List Fa} {a : Am} {k : Nat} (hk : k < l.length) (h : 30 < l[k].a.length) : fewQ l a = false := by
  unfold fewQ; rw [decide_eq_false_iff_not]; rintro ⟨_, _, g⟩; have := g _ (List.getElem_mem hk); omega
theorem fewQ_yes {l : List Fa} {a : Am} (h : l.length ≤ 150) (h2 : a.a.length ≤ 30) (g : ∀ x ∈ l, x.a.length ≤ 30) : fewQ l a = true := by unfold fewQ; rw [decide_eq_true_iff]; exact ⟨h, h2, g⟩
theorem fewQ_iff {l : List Fa} {a : Am} : fewQ l a = true ↔ l.length ≤ 150 ∧ a.a.length ≤ 30 ∧ ∀ x ∈ l, x.a.length ≤ 30 := by unfold fewQ; rw [decide_eq_true_iff]
/-! ### two parts -/
theorem mem_ask {p : Fa → Bool} {l : List Fa} {x : Fa} : x ∈ fof (l.filter p) ↔ x ∈ l ∧ p x = true := by rw [mem_fof, List.mem_filter]
theorem both_sorted (p : Fa → Bool) (l m : List Fa) : fof ((l ++ m).filter p) = fof (fof (l.filter p) ++ fof (m.filter p)) :=
  rises_ext (rises_fof _) (rises_fof _) fun x => by
    rw [mem_fof, mem_fof, List.mem_append, mem_ask, mem_ask, List.mem_filter, List.mem_append]
    constructor
    · rintro ⟨h | h, g⟩
      · exact .inl ⟨h, g⟩
      · exact .inr ⟨h, g⟩
    · rintro (⟨h, g⟩ | ⟨h, g⟩)
      · exact ⟨.inl h, g⟩
      · exact ⟨.inr h, g⟩
theorem ask_again (p : Fa → Bool) (l : List Fa) : fof ((fof (l.filter p)).filter p) = fof (l.filter p) :=
  rises_ext (rises_fof _) (rises_fof _) fun x => by
    rw [mem_ask, mem_ask]; exact ⟨fun h => h.1, fun h => ⟨h, h.2⟩⟩
theorem ask_lift {l : List Fa} {q : Fa} (h : q ∈ l) : fof (l.filter (mtch (lift q))) = [q] :=
  rises_ext (rises_fof _) (by unfold rises; simp) fun x => by
    rw [mem_ask, mtch_lift, decide_eq_true_iff, List.mem_singleton]
    exact ⟨fun g => g.2, fun g => ⟨g ▸ h, g⟩⟩
theorem is_ask {l : List Fa} {a : Am} {q : Fa} (h : q ∈ l) : (decide (q ∈ fof (l.filter (mtch a))) == mtch a q) = true := by
  cases e : mtch a q with
  | true => rw [decide_eq_true (mem_ask.2 ⟨h, e⟩)]; rfl
  | false => rw [decide_eq_false (fun c => by have := (mem_ask.1 c).2; rw [e] at this; cases this)]; rfl
/-! ### a symbol in place of a variable -/
def subT (t : Tm) (s : Int) (x : Tm) : Tm := if x = t then ⟨false, s⟩ else x
def subA (a : Am) (t : Tm) (s : Int) : Am := ⟨a.p, a.a.map (subT t s)⟩
theorem mtch_sub {a : Am} {t : Tm} {s : Int} {f : Fa} {j : Nat} (hj : a.a[j]? = some t) (hv : t.v = true) : mtch (subA a t s) f = true ↔ mtch a f = true ∧ f.a[j]? = some s := by
  unfold mtch
  rw [decide_eq_true_iff, decide_eq_true_iff]
  have key : ∀ σ : Int → Int, σ t.n = s → ap σ (subA a t s) = ap σ a := fun σ hs => by
    simp only [ap, subA, List.map_map, Fa.mk.injEq, true_and]
    apply List.map_congr_left
    intro x _
    simp only [Function.comp, subT]
    split
    · rename_i e; subst e; simp [tv, hv, hs]
    · rfl
  constructor
  · rintro ⟨σ, rfl⟩
    have e : ap σ (subA a t s) = ap (fun n => if n = t.n then s else σ n) a := by
      simp only [ap, subA, List.map_map, Fa.mk.injEq, true_and]
      apply List.map_congr_left
      intro x _
      simp only [Function.comp, subT]
      split
      · rename_i e; subst e; simp [tv, hv]
      · rename_i hne
        unfold tv
        cases hx : x.v with
        | false => rfl
        | true =>
          have : ¬ x.n = t.n := fun q => hne (by cases x; cases t; simp_all)
          simp [this]
    rw [e]
    exact ⟨⟨_, rfl⟩, by simp [ap, hj, tv, hv]⟩
  · rintro ⟨⟨σ, rfl⟩, h⟩
    have hs : σ t.n = s := by simpa [ap, hj, tv, hv] using h
    exact ⟨σ, (key σ hs).symm⟩
/-- Symbols, each once, as they come. -/
def addS (S : List Int) (n : Int) : List Int := if n ∈ S then S else S ++ [n]
def syms (l : List Int) : List Int := l.foldl addS []
theorem syms_snoc (l : List Int) (n : Int) : syms (l ++ [n]) = addS (syms l) n := by unfold syms; rw [List.foldl_append]; rfl
theorem syms_mem (l : List Int) (n : Int) : n ∈ syms l ↔ n ∈ l := by
  have key : ∀ (l S : List Int), n ∈ l.foldl addS S ↔ n ∈ S ∨ n ∈ l := by
    intro l
    induction l with
    | nil => intro S; simp
    | cons m l ih =>
      intro S
      rw [List.foldl_cons, ih, List.mem_cons]
      have : n ∈ addS S m ↔ n ∈ S ∨ n = m := by
        unfold addS; split
        · rename_i h; exact ⟨.inl, fun g => g.elim id (fun e => e ▸ h)⟩
        · rw [List.mem_append, List.mem_singleton]
      rw [this, or_assoc]
  unfold syms; rw [key]; simp
theorem syms_nodup (l : List Int) : (syms l).Nodup := by
  have key : ∀ (l S : List Int), S.Nodup → (l.foldl addS S).Nodup := by
    intro l
    induction l with
    | nil => exact fun S h => h
    | cons m l ih =>
      intro S h
      rw [List.foldl_cons]
      apply ih
      unfold addS; split
      · exact h
      · rename_i hm; rw [List.nodup_append]; exact ⟨h, by simp, fun x hx y hy => by rw [List.mem_singleton.1 hy]; exact fun e => hm (e ▸ hx)⟩
  exact key l [] .nil
theorem syms_len (l : List Int) : (syms l).length ≤ l.length := by
  have key : ∀ (l S : List Int), (l.foldl addS S).length ≤ S.length + l.length := by
    intro l
    induction l with
    | nil => intro S; simp
    | cons m l ih =>
      intro S
      rw [List.foldl_cons, List.length_cons]
      have h1 := ih (addS S m)
      have h2 : (addS S m).length ≤ S.length + 1 := by unfold addS; split <;> simp
      omega
  have := key l []; simpa [syms] using this
def args (l : List Fa) : List Int := l.flatMap fun x => x.a
theorem args_len : ∀ {l : List Fa} {n : Nat}, (∀ x ∈ l, x.a.length ≤ n) → (args l).length ≤ l.length * n
  | [], _, _ => by simp [args]
  | x :: l, n, h => by
    have h1 := args_len (l := l) (n := n) fun y hy => h y (.tail _ hy)
    have h2 := h x (.head _)
    unfold args at h1 ⊢
    rw [List.flatMap_cons, List.length_append, List.length_cons, Nat.add_mul]
    omega
/-- So many match with each symbol in place of the variable. -/
noncomputable def parts (l : List Fa) (a : Am) (t : Tm) (S : List Int) : Nat := (S.map fun s => (fof (l.filter (mtch (subA a t s)))).length).sum
theorem parts_next {l : List Fa} {a : Am} {t : Tm} {S : List Int} {k : Nat} (hk : k < S.length) : parts l a t (S.take (k + 1)) = parts l a t (S.take k) + (fof (l.filter (mtch (subA a t S[k])))).length := by
  unfold parts; rw [List.take_succ_eq_append_getElem hk, List.map_append, List.sum_append]; simp only [List.map_cons, List.map_nil, List.sum_cons, List.sum_nil, Nat.add_zero]
theorem count_parts (X : List Fa) (g : Fa → Int) : ∀ (S : List Int), S.Nodup → (S.map fun s => (X.filter fun f => decide (g f = s)).length).sum = (X.filter fun f => decide (g f ∈ S)).length
  | [], _ => by rw [List.filter_eq_nil_iff.2 (by simp)]; rfl
  | s :: S, h => by
    rw [List.nodup_cons] at h
    rw [List.map_cons, List.sum_cons, count_parts X g S h.2]
    induction X with
    | nil => rfl
    | cons f X ih =>
      simp only [List.mem_cons] at ih ⊢
      by_cases h1 : g f = s
      · have h2 : ¬ g f ∈ S := fun c => h.1 (h1 ▸ c)
        simp only [List.filter_cons, h1, h2, List.mem_cons, true_or, decide_true, if_true, List.length_cons]
        rw [← h1]
        simp only [h2, decide_false, Bool.false_eq_true, if_false]
        rw [← h1] at ih
        omega
      · by_cases h2 : g f ∈ S
        · simp only [List.filter_cons, h1, h2, List.mem_cons, or_true, decide_true, decide_false, if_true, Bool.false_eq_true, if_false, List.length_cons]; omega
        · simp only [List.filter_cons, h1, h2, List.mem_cons, or_false, decide_false, Bool.false_eq_true, if_false]; exact ih
theorem parts_all {l : List Fa} {a : Am} {t : Tm} {j : Nat} (hj : a.a[j]? = some t) (hv : t.v = true) : parts l a t (syms (args l)) = (fof (l.filter (mtch a))).length := by
  have e : ∀ s, fof (l.filter (mtch (subA a t s))) = (fof (l.filter (mtch a))).filter (fun f => decide (f.a.getD j 0 = s)) := fun s =>
    rises_ext (rises_fof _) (rises_filter (rises_fof _) _) fun x => by
      rw [mem_ask, List.mem_filter, mem_ask, mtch_sub hj hv, decide_eq_true_iff]
      constructor
      · rintro ⟨h1, h2, h3⟩; exact ⟨⟨h1, h2⟩, by rw [List.getD_eq_getElem?_getD, h3]; rfl⟩
      · rintro ⟨⟨h1, h2⟩, h3⟩
        refine ⟨h1, h2, ?_⟩
        unfold mtch at h2
        rw [decide_eq_true_iff] at h2
        have hl := h2.pred.2
        have hjl : j < x.a.length := by rw [← hl]; exact (List.getElem?_eq_some_iff.1 hj).1
        rw [List.getD_eq_getElem?_getD, List.getElem?_eq_getElem hjl] at h3
        rw [List.getElem?_eq_getElem hjl]; exact congrArg some h3
  unfold parts
  simp only [e]
  rw [count_parts _ (fun f => f.a.getD j 0) _ (syms_nodup _)]
  congr 1
  rw [List.filter_eq_self]
  intro x hx
  rw [mem_ask] at hx
  obtain ⟨h1, h2⟩ := hx
  unfold mtch at h2
  rw [decide_eq_true_iff] at h2
  have hl := h2.pred.2
  have hjl : j < x.a.length := by rw [← hl]; exact (List.getElem?_eq_some_iff.1 hj).1
  rw [decide_eq_true_iff, syms_mem]
  unfold args
  rw [List.mem_flatMap]
  exact ⟨x, h1, by rw [List.getD_eq_getElem?_getD, List.getElem?_eq_getElem hjl]; exact List.getElem_mem _⟩
theorem part_in {l : List Fa} {a : Am} {t : Tm} {s : Int} {j : Nat} (hj : a.a[j]? = some t) (hv : t.v = true) {x : Fa} (hx : x ∈ fof (l.filter (mtch (subA a t s)))) : x ∈ fof (l.filter (mtch a)) := by
  rw [mem_ask] at hx ⊢
  exact ⟨hx.1, ((mtch_sub hj hv).1 hx.2).1⟩
theorem args_next {l : List Fa} {i : Nat} (hi : i < l.length) : args (l.take (i + 1)) = args (l.take i) ++ l[i].a := by unfold args; rw [List.take_succ_eq_append_getElem hi, List.flatMap_append]; simp
theorem syms_row0 {l : List Fa} {i : Nat} (hi : i < l.length) : syms (args (l.take i)) = syms (args (l.take i) ++ l[i].a.take 0) := by simp
theorem syms_row {l : List Fa} {i k : Nat} (hi : i < l.length) (hk : l[i].a.length ≤ k) : syms (args (l.take i) ++ l[i].a.take k) = syms (args (l.take (i + 1))) := by rw [args_next hi, List.take_of_length_le hk]
theorem syms_new {l : List Fa} {i k : Nat} {hi : i < l.length} (hk : k < l[i].a.length) (h : ¬ l[i].a[k] ∈ syms (args (l.take i) ++ l[i].a.take k)) : syms (args (l.take i) ++ l[i].a.take (k + 1)) = syms (args (l.take i) ++ l[i].a.take k) ++ [l[i].a[k]] := by
  rw [List.take_succ_eq_append_getElem hk, ← List.append_assoc, syms_snoc, addS, if_neg h]
theorem syms_old {l : List Fa} {i k : Nat} {hi : i < l.length} (hk : k < l[i].a.length) (h : l[i].a[k] ∈ syms (args (l.take i) ++ l[i].a.take k)) : syms (args (l.take i) ++ l[i].a.take (k + 1)) = syms (args (l.take i) ++ l[i].a.take k) := by
  rw [List.take_succ_eq_append_getElem hk, ← List.append_assoc, syms_snoc, addS, if_pos h]
theorem syms_part {l : List Fa} {i k : Nat} {hi : i < l.length} {n : Nat} (hb : ∀ x ∈ l, x.a.length ≤ n) (hk : k ≤ l[i].a.length) : (syms (args (l.take i) ++ l[i].a.take k)).length ≤ l.length * n := by
  refine Nat.le_trans (syms_len _) ?_
  have h1 := args_len (l := l.take (i + 1)) (n := n) fun x hx => hb x (List.mem_of_mem_take hx)
  rw [args_next hi, List.length_append] at h1
  have h2 : (l.take (i + 1)).length * n ≤ l.length * n := Nat.mul_le_mul_right _ (by simp; omega)
  rw [List.length_append, List.length_take]
  omega
theorem int_next_yes {l : List Int} {x : Int} {j : Nat} (h : x ∈ l.take j) : decide (x ∈ l.take (j + 1)) = true := by
  rw [decide_eq_true_iff]; exact (List.take_sublist_take_left (by omega)).subset h
theorem int_next_no {l : List Int} {x : Int} {j : Nat} (hj : j < l.length) (h : ¬ x ∈ l.take j) : decide (x ∈ l.take (j + 1)) = decide (l[j] = x) := by
  rw [List.take_succ_eq_append_getElem hj, decide_eq_decide, List.mem_append, List.mem_singleton]
  exact ⟨fun q => q.elim (fun c => absurd c h) (fun e => e.symm), fun q => .inr q.symm⟩
theorem syms_ok {l : List Fa} (h : ∀ x ∈ l, x.ok) {n : Int} (hn : n ∈ syms (args l)) : 0 ≤ n := by
  rw [syms_mem] at hn
  unfold args at hn
  rw [List.mem_flatMap] at hn
  obtain ⟨x, hx, hn⟩ := hn
  exact ((h x hx).2 n hn).1
theorem subA_ok {a : Am} {t : Tm} {s : Int} (h : ∀ x ∈ a.a, 0 ≤ x.n) (hs : 0 ≤ s) : ∀ x ∈ (subA a t s).a, 0 ≤ x.n := fun x hx => by
  simp only [subA, List.mem_map] at hx
  obtain ⟨y, hy, rfl⟩ := hx
  unfold subT; split
  · exact hs
  · exact h y hy
theorem parts_le {l : List Fa} {a : Am} {t : Tm} {S : List Int} : parts l a t S ≤ S.length * l.length := by
  unfold parts
  induction S with
  | nil => simp
  | cons s S ih =>
    rw [List.map_cons, List.sum_cons, List.length_cons, Nat.add_mul]
    have := Nat.le_trans (fof_len (l.filter (mtch (subA a t s)))) (List.length_filter_le _ _)
    omega
/-- The first places gone through. -/
def subs (a : List Tm) (t : Tm) (s : Int) (n : Nat) : List Tm := (a.take n).map (subT t s) ++ a.drop n
theorem subs_len (a : List Tm) (t : Tm) (s : Int) (n : Nat) : (subs a t s n).length = a.length := by simp [subs]; omega
theorem subs_get {a : List Tm} {t : Tm} {s : Int} {n : Nat} (h : n < a.length) : (subs a t s n)[n]? = some a[n] := by
  unfold subs
  rw [List.getElem?_append_right (by simp; omega), List.getElem?_drop]
  simp [Nat.min_eq_left (Nat.le_of_lt h), h]
theorem subs_cons {a : List Tm} {t : Tm} {s : Int} {n : Nat} (h : n < a.length) : subs a t s (n + 1) = (a.take n).map (subT t s) ++ subT t s a[n] :: a.drop (n + 1) := by
  unfold subs; rw [List.take_succ_eq_append_getElem h, List.map_append, List.append_assoc]; rfl
theorem subs_yes {a : List Tm} {t : Tm} {s : Int} {n : Nat} (h : n < a.length) (e : t = a[n]) : subs a t s (n + 1) = (subs a t s n).set n ⟨false, s⟩ := by
  rw [subs_cons h]
  unfold subs
  rw [List.drop_eq_getElem_cons h, List.set_append_right _ _ (by simp; omega)]
  simp [Nat.min_eq_left (Nat.le_of_lt h), subT, ← e]
theorem subs_no {a : List Tm} {t : Tm} {s : Int} {n : Nat} (h : n < a.length) (e : ¬ t = a[n]) : subs a t s (n + 1) = subs a t s n := by
  rw [subs_cons h]
  unfold subs
  rw [List.drop_eq_getElem_cons h]
  simp [subT, Ne.symm e]
theorem subs_all {a : Am} {t : Tm} {s : Int} : subs a.a t s a.a.length = (subA a t s).a := by simp [subs, subA]
def fcT (x : Tm) : List Value := [.bool x.v, .int .u32 x.n]
theorem fcT_eq : ∀ (h : Heap) (x : Tm) (cs : List Value), tTm.rep h x cs → cs = fcT x := fun _ _ _ h => tTm_open h
end Go.Proofs.Ytdkfpgdfjnaciaa.SL
