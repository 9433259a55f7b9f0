/- Plain laws of sets of facts: what the statements of stage 10 say of them. -/
import Derived.Test.YtdkfpgdfjnaciaaD7
set_option linter.unusedVariables false
set_option linter.unusedSimpArgs false
namespace Go.Proofs.Ytdkfpgdfjnaciaa.SL
theorem mem_less {a b : List Fa} {x : Fa} : x ∈ less a b ↔ x ∈ a ∧ ¬ x ∈ b := by simp [less]
theorem rises_less {a : List Fa} (h : rises a) (b : List Fa) : rises (less a b) := rises_filter h _
theorem less_len (a b : List Fa) : (less a b).length ≤ a.length := List.length_filter_le _ _
theorem less_nil (a : List Fa) : less a [] = a := by simp [less]
theorem less_self (a : List Fa) : less a a = [] := by
  unfold less; rw [List.filter_eq_nil_iff]; intro x hx; simp [hx]
noncomputable def cuts (z l : List Fa) : List Fa := l.foldl fcut z
theorem cuts_next {z l : List Fa} {k : Nat} (hk : k < l.length) : cuts z (l.take (k + 1)) = fcut (cuts z (l.take k)) l[k] := by
  unfold cuts; rw [List.take_succ_eq_append_getElem hk, List.foldl_append]; rfl
theorem cuts_rises : ∀ (l z : List Fa), rises z → rises (cuts z l)
  | [], _, h => h
  | x :: l, z, h => cuts_rises l _ (rises_fcut h x)
theorem cuts_len : ∀ (l z : List Fa), (cuts z l).length ≤ z.length
  | [], _ => Nat.le_refl _
  | x :: l, z => Nat.le_trans (cuts_len l _) (fcut_len z x)
theorem mem_cuts : ∀ (l : List Fa) {z : List Fa}, rises z → ∀ x, x ∈ cuts z l ↔ x ∈ z ∧ ¬ x ∈ l
  | [], z, h, x => by simp [cuts]
  | y :: l, z, h, x => by
    have := mem_cuts l (rises_fcut h y) x
    unfold cuts at this ⊢
    rw [List.foldl_cons, this, mem_fcut h, List.mem_cons, not_or, and_assoc]
theorem cuts_none {a b : List Fa} : cuts (less (fof a) b) a = [] := by
  rw [List.eq_nil_iff_forall_not_mem]
  intro x hx
  rw [mem_cuts a (rises_less (rises_fof a) b), mem_less, mem_fof] at hx
  exact hx.2 hx.1.1
theorem fput_ge (l : List Fa) (q : Fa) : l.length ≤ (fput l q).length := by
  by_cases h : q ∈ l
  · rw [fput_yes h]; exact Nat.le_refl _
  · rw [fput_no h]; simp; omega
theorem fput_has (l : List Fa) (q : Fa) : q ∈ fput l q := mem_fput.2 (.inl rfl)
theorem fcut_has {l : List Fa} (h : rises l) (q : Fa) : ¬ q ∈ fcut l q := fun c => ((mem_fcut h).1 c).2 rfl
theorem rises_at {l : List Fa} (h : rises l) {j k : Nat} (hj : j < k) (hk : k < l.length) : cF l[j] l[k] < 0 := List.pairwise_iff_getElem.1 h j k (by omega) hk hj
theorem ap_lift (s : Int → Int) (q : Fa) : ap s (lift q) = q := by
  obtain ⟨p, a⟩ := q
  simp [ap, lift, tv, Function.comp_def]
theorem mtch_lift (q f : Fa) : mtch (lift q) f = decide (f = q) := by
  unfold mtch
  rw [decide_eq_decide]
  constructor
  · rintro ⟨s, h⟩; rw [ap_lift] at h; exact h
  · rintro rfl; exact ⟨fun _ => 0, (ap_lift _ _).symm⟩
theorem rises_nodup {l : List Fa} (h : rises l) : l.Nodup := List.Pairwise.imp (fun {a b} g e => by subst e; rw [cF_zero.2 rfl] at g; omega) h
theorem find_lift {l : List Fa} (h : rises l) {q : Fa} (hq : q ∈ l) : l.filter (mtch (lift q)) = [q] := by
  have e : l.filter (mtch (lift q)) = l.filter (fun f => f == q) := by
    apply List.filter_congr
    intro f _
    rw [mtch_lift]
    by_cases g : f = q <;> simp [g]
  rw [e]
  refine rises_ext (rises_filter h _) (by unfold rises; simp) fun x => ?_
  simp only [List.mem_filter, beq_iff_eq, List.mem_singleton]
  exact ⟨fun g => g.2, fun g => ⟨g ▸ hq, g⟩⟩
theorem filter_at {α : Type} {p : α → Bool} {l : List α} {k : Nat} (hk : k < l.length) (h : p l[k] = true) : ((l.take k).filter p).length < (l.filter p).length ∧ (l.filter p)[((l.take k).filter p).length]? = some l[k] := by
  have e : l.filter p = (l.take k).filter p ++ (l[k] :: (l.drop (k + 1)).filter p) := by
    conv => lhs; rw [← List.take_append_drop k l, List.drop_eq_getElem_cons hk, List.filter_append, List.filter_cons_of_pos h]
  rw [e]
  constructor
  · simp
  · simp
/-- The atom of so many unlike variables. -/
def loose (p : Int) (n : Nat) : Am := ⟨p, (List.range n).map fun (i : Nat) => (⟨true, (i : Int)⟩ : Tm)⟩
theorem mtch_loose (p : Int) (n : Nat) (f : Fa) : mtch (loose p n) f = decide (f.p = p ∧ f.a.length = n) := by
  unfold mtch
  rw [decide_eq_decide]
  constructor
  · intro h; have := h.pred; simp [loose] at this; exact ⟨this.1.symm, this.2.symm⟩
  · rintro ⟨h1, h2⟩
    refine Mt_of_fits (s := fun x => f.a.getD x.toNat 0) (by simp [loose, h1]) (by simp [loose, h2]) fun k t m hk ha hf => ?_
    simp only [loose, List.length_map, List.length_range] at hk
    simp only [loose, List.getElem?_map, List.getElem?_range hk, Option.map_some, Option.some.injEq] at ha
    subst ha
    simp [tv, hf]
theorem loose_next (p : Int) (n : Nat) : (loose p (n + 1)).a = (loose p n).a ++ [⟨true, (n : Int)⟩] := by simp [loose, List.range_succ]
theorem loose_len (p : Int) (n : Nat) : (loose p n).a.length = n := by simp [loose]
/-! ### algebra -/
theorem less_less (a b c : List Fa) : less (less a b) c = less (less a c) b := by
  unfold less; rw [List.filter_filter, List.filter_filter]; congr 1; funext x; rw [Bool.and_comm]
theorem less_both {a b c : List Fa} : less (less a (fof b)) (fof c) = less a (fof (b ++ c)) := by
  unfold less
  rw [List.filter_filter]
  apply List.filter_congr
  intro x _
  by_cases h1 : x ∈ b <;> by_cases h2 : x ∈ c <;> simp [mem_fof, h1, h2]
theorem less_common {a b : List Fa} (ha : rises a) (hb : rises b) : less a (less a b) = less b (less b a) := by
  refine rises_ext (rises_less ha _) (rises_less hb _) fun x => ?_
  simp only [mem_less]
  by_cases h1 : x ∈ a <;> by_cases h2 : x ∈ b <;> simp [h1, h2]
theorem mem_common {a b : List Fa} {x : Fa} (h : x ∈ less a (less a b)) : x ∈ a ∧ x ∈ b := by
  simp only [mem_less] at h
  by_cases h1 : x ∈ a <;> by_cases h2 : x ∈ b <;> simp_all
theorem len_common (a b : List Fa) : a.length = (less a (less a b)).length + (less a b).length := by
  have e : less a (less a b) = a.filter (fun x => decide (x ∈ b)) := by
    unfold less
    apply List.filter_congr
    intro x hx
    by_cases h2 : x ∈ b <;> simp [h2, hx]
  rw [e]
  unfold less
  clear e
  induction a with
  | nil => rfl
  | cons x a ih =>
    by_cases h : x ∈ b
    · simp only [List.filter_cons, h, decide_true, if_true, List.length_cons, Bool.not_true, Bool.false_eq_true, if_false]; omega
    · simp only [List.filter_cons, h, decide_false, if_true, List.length_cons, Bool.not_false, Bool.false_eq_true, if_false]; omega
end Go.Proofs.Ytdkfpgdfjnaciaa.SL
