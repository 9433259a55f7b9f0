/- Plain laws of sets of facts: what the statements of stage 10 say of them. -/
import Derived.Test.YtdkfpgdfjnaciaaD7
set_option linter.unusedVariables false
set_option linter.unusedSimpArgs false
namespace Go.Proofs.Ytdkfpgdfjnaciaa.SL
theorem mem_less {a b : List Fa} {x : Fa} : x ∈ less a b ↔ x ∈ a ∧ ¬ x ∈ b := by simp [less]
theorem rises_less {a : List Fa} (h : rises a) (b : List Fa) : rises (less a b) := rises_filter h _
theorem less_len (a b : List Fa) : (less a b).length ≤ a.length := List.length_filter_le _ _
theorem less_nil (a : List Fa) : less a [] = a := by simp [less]
theorem less_self (a : List Fa) : less a a = [] := by
  unfold less; rw [List.filter_eq_nil_iff]; intro x hx; simp [hx]
noncomputable def cuts (z l : List Fa) : List Fa := l.foldl fcut z
theorem cuts_next {z l : List Fa} {k : Nat} (hk : k < l.length) : cuts z (l.take (k + 1)) = fcut (cuts z (l.take k)) l[k] := by
  unfold cuts; rw [List.take_succ_eq_append_getElem hk, List.foldl_append]; rfl
theorem cuts_rises : ∀ (l z : List Fa), rises z → rises (cuts z l)
  | [], _, h => h
  | x :: l, z, h => cuts_rises l _ (rises_fcut h x)
theorem cuts_len : ∀ (l z : List Fa), (cuts z l).length ≤ z.length
  | [], _ => Nat.le_refl _
  | x :: l, z => Nat.le_trans (cuts_len l _) (fcut_len z x)
theorem mem_cuts : ∀ (l : List Fa) {z : List Fa}, rises z → ∀ x, x ∈ cuts z l ↔ x ∈ z ∧ ¬ x ∈ l
  | [], z, h, x => by simp [cuts]
  | y :: l, z, h, x => by
    have := mem_cuts l (rises_fcut h y) x
    unfold cuts at this ⊢
    rw [List.foldl_cons, this, mem_fcut h, List.mem_cons, not_or, and_assoc]
theorem cuts_none {a b : List Fa} : cuts (less (fof a) b) a = [] := by
  rw [List.eq_nil_iff_forall_not_mem]
  intro x hx
  rw [mem_cuts a (rises_less (rises_fof a) b), mem_less, mem_fof] at hx
  exact hx.2 hx.1.1
theorem fput_ge (l : List Fa) (q : Fa) : l.length ≤ (fput l q).length := by
  by_cases h : q ∈ l
  · rw [fput_yes h]; exact Nat.le_refl _
  · rw [fput_no h]; simp; omega
theorem fput_has (l : List Fa) (q : Fa) : q ∈ fput l q := mem_fput.2 (.inl rfl)
theorem fcut_has {l : List Fa} (h : rises l) (q : Fa) : ¬ q ∈ fcut l q := fun c => ((mem_fcut h).1 c).2 rfl
theorem rises_at {l : List Fa} (h : rises l) {j k : Nat} (hj : j < k) (hk : k < l.length) : cF l[j] l[k] < 0 := List.pairwise_iff_getElem.1 h j k (by omega) hk hj
theorem ap_lift (s : Int → Int) (q : Fa) : ap s (lift q) = q := by
  obtain ⟨p, a⟩ := q
  simp [ap, lift, tv, Function.comp_def]
theorem mtch_lift (q f : Fa) : mtch (lift q) f = decide (f = q) := by
  unfold mtch
  rw [decide_eq_decide]
  constructor
  · rintro ⟨s, h⟩; rw [ap_lift] at h; exact h
  · rintro rfl; exact ⟨fun _ => 0, (ap_lift _ _).symm⟩
theorem rises_nodup {l : List Fa} (h : rises l) : l.Nodup := List.Pairwise.imp (fun {a b} g e => by subst e; rw [cF_zero.2 rfl] at g; omega) h
theorem find_lift {l : List Fa} (h : rises l) {q : Fa} (hq : q ∈ l) : l.filter (mtch (lift q)) = [q] := by
  have e : l.filter (mtch (lift q)) = l.filter (fun f => f == q) := by
    apply List.filter_congr
    intro f _
    rw [mtch_lift]
    by_cases g : f = q <;> simp [g]
  rw [e]
  refine rises_ext (rises_filter h _) (by unfold rises; simp) fun x => ?_
  simp only [List.mem_filter, beq_iff_eq, List.mem_singleton]
  exact ⟨fun g => g.2, fun g => ⟨g ▸ hq, g⟩⟩
theorem filter_at {α : Type} {p : α → Bool} {l : List α} {k : Nat} (hk : k < l.length) (h : p l[k] = true) : ((l.take k).filter p).length < (l.filter p).length ∧ (l.filter p)[((l.take k).filter p).length]? = some l[k] := by
  have e : l.filter p = (l.take k).filter p ++ (l[k] :: (l.drop (k + 1)).filter p) := by
    conv => lhs; rw [← List.take_append_drop k l, List.drop_eq_getElem_cons hk, List.filter_append, List.filter_cons_of_pos h]
  rw [e]
  constructor
  · simp
  · simp
/-- The atom of so many unlike variables. -/
def loose (p : Int) (n : Nat) : Am := ⟨p, (List.range n).map fun (i : Nat) => (⟨true, (i : Int)⟩ : Tm)⟩
theorem mtch_loose (p : Int) (n : Nat) (f : Fa) : mtch (loose p n) f = decide (f.p = p ∧ f.a.length = n) := by
  unfold mtch
  rw [decide_eq_decide]
  constructor
  · intro h; have := h.pred; simp [loose] at this; exact ⟨this.1.symm, this.2.symm⟩
  · rintro ⟨h1, h2⟩
    refine Mt_of_fits (s := fun x => f.a.getD x.toNat 0) (by simp [loose, h1]) (by simp [loose, h2]) fun k t m hk ha hf => ?_
    simp only [loose, List.length_map, List.length_range] at hk
    simp only [loose, List.getElem?_map, List.getElem?_range hk, Option.map_some, Option.some.injEq] at ha
    subst ha
    simp [tv, hf]
theorem loose_next (p : Int) (n : Nat) : (loose p (n + 1)).a = (loose p n).a ++ [⟨true, (n : Int)⟩] := by simp [loose, List.range_succ]
theorem loose_len (p : Int) (n : Nat) : (loose p n).a.length = n := by simp [loose]
/-! ### algebra -/
theorem less_less (a b c : List Fa) : less (less a b) c = less (less a c) b := by
  unfold less; rw [List.filter_filter, List.filter_filter]; congr 1; funext x; rw [Bool.and_comm]
theorem less_both {a b c : List Fa} : less (less a (fof b)) (fof c) = less a (fof (b ++ c)) := by
  unfold less
  rw [List.filter_filter]
  apply List.filter_congr
  intro x _
  by_cases h1 : x ∈ b <;> by_cases h2 : x ∈ c <;> simp [mem_fof, h1, h2]
theorem less_common {a b : List Fa} (ha : rises a) (hb : rises b) : less a (less a b) = less b (less b a) := by
  refine rises_ext (rises_less ha _) (rises_less hb _) fun x => ?_
  simp only [mem_less]
  by_cases h1 : x ∈ a <;> by_cases h2 : x ∈ b <;> simp [h1, h2]
theorem mem_common {a b : List Fa} {x : Fa} (h : x ∈ less a (less a b)) : x ∈ a ∧ x ∈ b := by
  simp only [mem_less] at h
  by_cases h1 : x ∈ a <;> by_cases h2 : x ∈ b <;> simp_all
theorem len_common (a b : List Fa) : a.length = (less a (less a b)).length + (less a b).length := by
  have e : less a (less a b) = a.filter (fun x => decide (x ∈ b)) := by
    unfold less
    apply List.filter_congr
    intro x hx
    by_cases h2 : x ∈ b <;> simp [h2, hx]
  rw [e]
  unfold less
  clear e
  induction a with
  | nil => rfl
  | cons x a ih =>
    by_cases h : x ∈ b
    · simp only [List.filter_cons, h, decide_true, if_true, List.length_cons, Bool.not_true, Bool.false_eq_true, if_false]; omega
    · simp only [List.filter_cons, h, decide_false, if_true, List.length_cons, Bool.not_false, Bool.false_eq_true, if_false]; omega
theorem wrap32 {n : Int} (h : 0 ≤ n ∧ n < 4294967296) : IntKind.u32.wrap n = n := by
  unfold IntKind.wrap IntKind.signed IntKind.bits
  simp
  omega
theorem cmpF_self (p : Int) (a : List Int) : cmpF p a p a = 0 := cmpF_zero (x := ⟨p, a⟩) |>.2 rfl
structure Fine (l : List Fa) : Prop where
  r : rises l
  n : l.length ≤ 1000000
  b : ∀ x ∈ l, x.a.length ≤ 100000
theorem Fine.less {a : List Fa} (h : Fine a) (b : List Fa) : Fine (less a b) := ⟨rises_less h.r b, Nat.le_trans (less_len _ _) h.n, fun x hx => h.b x (mem_less.1 hx).1⟩
theorem Fine.nil : Fine [] := ⟨rises_nil, by simp, by simp⟩
theorem Fine.fof {l : List Fa} (h1 : l.length ≤ 1000000) (h2 : ∀ x ∈ l, x.a.length ≤ 100000) : Fine (fof l) := ⟨rises_fof l, Nat.le_trans (fof_len l) h1, fun x hx => h2 x (mem_fof.1 hx)⟩
theorem Fine.few {l : List Fa} (h : fewF l = true) : Fine (SL.fof l) := by
  obtain ⟨h1, h2⟩ := fewF_iff.1 h
  exact Fine.fof (by omega) (fun x hx => Nat.le_trans (h2 x hx) (by omega))
/-- One list holds only what is in another, each at most once. -/
theorem nodup_len : ∀ {a b : List Fa}, a.Nodup → (∀ x ∈ a, x ∈ b) → a.length ≤ b.length
  | [], _, _, _ => by simp
  | x :: a, b, hn, h => by
    rw [List.nodup_cons] at hn
    have hx := h x (.head _)
    have h1 := nodup_len (a := a) (b := b.erase x) hn.2 fun y hy => (List.mem_erase_of_ne (by rintro rfl; exact hn.1 hy)).2 (h y (.tail _ hy))
    rw [List.length_erase_of_mem hx] at h1
    have : 0 < b.length := List.length_pos_of_mem hx
    simp only [List.length_cons]; omega
theorem sub_len {a b : List Fa} (ha : rises a) (h : ∀ x ∈ a, x ∈ b) : a.length ≤ b.length := nodup_len (rises_nodup ha) h
theorem fof_all {l s : List Fa} (h : rises s) (h1 : ∀ x ∈ s, x ∈ l) (h2 : ∀ x ∈ l, x ∈ s) : s = fof l := rises_ext h (rises_fof l) fun x => ⟨fun hx => mem_fof.2 (h1 x hx), fun hx => h2 x (mem_fof.1 hx)⟩
theorem rem_idx {x : Int} {n : Nat} (hx : 0 ≤ x) (hn : 0 < n) : ∃ j : Nat, j < n ∧ x.tmod (n : Int) = (j : Int) := by
  obtain ⟨m, rfl⟩ := Int.eq_ofNat_of_zero_le hx
  exact ⟨m % n, Nat.mod_lt _ hn, tmod_cast m n⟩
theorem in_next_yes {l : List Fa} {x : Fa} {j : Nat} (h : x ∈ l.take j) : decide (x ∈ l.take (j + 1)) = true := by
  rw [decide_eq_true_iff]; exact (List.take_sublist_take_left (by omega)).subset h
theorem in_next_no {l : List Fa} {x : Fa} {j : Nat} (hj : j < l.length) (h : ¬ x ∈ l.take j) : decide (x ∈ l.take (j + 1)) = decide (cmpF l[j].p l[j].a x.p x.a = 0) := by
  rw [List.take_succ_eq_append_getElem hj, decide_eq_decide, List.mem_append, List.mem_singleton]
  constructor
  · rintro (q | q)
    · exact absurd q h
    · rw [q]; exact cmpF_self _ _
  · intro q; exact .inr (cmpF_zero.1 q).symm
theorem lift_ok {x : Fa} (h : x.ok) : ∀ t ∈ (lift x).a, 0 ≤ t.n := fun t ht => by
  simp only [lift, List.mem_map] at ht
  obtain ⟨n, hn, rfl⟩ := ht
  exact (h.2 n hn).1
theorem drop_in {l s : List Fa} {j : Nat} (h0 : 0 < j) (hj : j - 1 < l.length) (h : ∀ y ∈ l.drop j, y ∈ s) : ∀ y ∈ l.drop (j - 1), y ∈ fput (fput s l[j - 1]) l[j - 1] := by
  rw [List.drop_eq_getElem_cons hj, show j - 1 + 1 = j by omega]
  intro y hy
  rcases List.mem_cons.1 hy with rfl | hy
  · exact fput_has _ _
  · exact mem_fput.2 (.inr (mem_fput.2 (.inr (h y hy))))
/-- Of the predicate, and as long. -/
def isOf (t : Am) (f : Fa) : Bool := decide (f.p = t.p ∧ f.a.length = t.a.length)
theorem loose_is {t : Am} : mtch (loose t.p t.a.length) = isOf t := by funext f; rw [mtch_loose]; rfl
theorem isOf_yes {t : Am} {f : Fa} (h : f.p = t.p) (g : (f.a.length : Int) = t.a.length) : isOf t f = true := by unfold isOf; rw [decide_eq_true_iff]; exact ⟨h, by omega⟩
theorem isOf_no {t : Am} {f : Fa} (h : f.p = t.p) (g : ¬ (f.a.length : Int) = t.a.length) : isOf t f = false := by unfold isOf; rw [decide_eq_false_iff_not]; rintro ⟨_, q⟩; omega
theorem isOf_no' {t : Am} {f : Fa} (h : ¬ f.p = t.p) : isOf t f = false := by unfold isOf; rw [decide_eq_false_iff_not]; rintro ⟨q, _⟩; exact h q
theorem loose_ok (p : Int) (n : Nat) : ∀ t ∈ (loose p n).a, 0 ≤ t.n := fun t ht => by
  simp only [loose, List.mem_map] at ht
  obtain ⟨n, _, rfl⟩ := ht
  simp
end Go.Proofs.Ytdkfpgdfjnaciaa.SL
