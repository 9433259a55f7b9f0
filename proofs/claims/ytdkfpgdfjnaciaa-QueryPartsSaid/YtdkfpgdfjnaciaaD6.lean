/- What a set is after a fact was put or cut. -/
import Derived.Test.YtdkfpgdfjnaciaaD5
set_option linter.unusedVariables false
set_option linter.unusedSimpArgs false
namespace Go.Proofs.Ytdkfpgdfjnaciaa.SL
theorem take_while {α : Type} {p : α → Bool} : ∀ (l : List α), ∀ x ∈ l.take (l.takeWhile p).length, p x = true
  | [], x, h => by simp at h
  | y :: l, x, h => by
    rw [List.takeWhile_cons] at h
    by_cases hy : p y = true
    · rw [if_pos hy, List.length_cons, List.take_succ_cons] at h
      rcases List.mem_cons.1 h with rfl | h
      · exact hy
      · exact take_while l x h
    · rw [if_neg hy] at h
      simp at h
theorem at_low {l : List Fa} (q : Fa) : ∀ x ∈ l.take (at_ l q), cF x q < 0 := fun x hx => by
  have := take_while (p := fun x => decide (cF x q < 0)) l x hx
  simpa using this
theorem at_high {l : List Fa} (h : rises l) (q : Fa) : ∀ x ∈ l.drop (at_ l q), ¬ cF x q < 0 := by
  rcases Nat.lt_or_ge (at_ l q) l.length with hl | hl
  · refine rises_drop h hl ?_
    intro c
    have h1 := rises_take h hl c
    have : at_ l q + 1 ≤ (l.takeWhile fun x => decide (cF x q < 0)).length := by
      have e : l.takeWhile (fun x => decide (cF x q < 0)) = l.take (at_ l q + 1) ++ (l.drop (at_ l q + 1)).takeWhile (fun x => decide (cF x q < 0)) := by
        conv => lhs; rw [← List.take_append_drop (at_ l q + 1) l]
        rw [List.takeWhile_append_of_pos (fun x hx => by simpa using h1 x hx)]
      rw [e, List.length_append, List.length_take]
      omega
    unfold at_ at this
    omega
  · rw [List.drop_of_length_le hl]
    intro x hx; cases hx
theorem rises_fput {l : List Fa} (h : rises l) (q : Fa) : rises (fput l q) := by
  by_cases hm : q ∈ l
  · rw [fput_yes hm]; exact h
  · rw [fput_no hm]
    unfold rises at h ⊢
    have hs := h
    rw [← List.take_append_drop (at_ l q) l, List.pairwise_append] at hs
    rw [List.pairwise_append, List.pairwise_cons]
    have hi : ∀ x ∈ l.drop (at_ l q), cF q x < 0 := fun x hx => by
      have h1 := at_high h q x hx
      have h2 : cF x q ≠ 0 := fun e => hm (by rw [← cF_zero.1 e]; exact List.mem_of_mem_drop hx)
      rw [cF_swap]
      omega
    refine ⟨hs.1, ⟨hi, hs.2.1⟩, fun x hx y hy => ?_⟩
    rcases List.mem_cons.1 hy with rfl | hy
    · exact at_low _ x hx
    · exact hs.2.2 x hx y hy
theorem rises_fcut {l : List Fa} (h : rises l) (q : Fa) : rises (fcut l q) := by
  by_cases hm : q ∈ l
  · rw [fcut_yes hm]
    unfold rises at h ⊢
    rw [← List.take_append_drop (at_ l q) l, List.pairwise_append] at h
    rw [List.pairwise_append]
    have hd : (l.drop (at_ l q + 1)).Sublist (l.drop (at_ l q)) := by
      rw [← List.drop_drop]; exact List.drop_sublist _ _
    exact ⟨h.1, h.2.1.sublist hd, fun x hx y hy => h.2.2 x hx y (hd.subset hy)⟩
  · rw [fcut_no hm]; exact h
theorem mem_fput {l : List Fa} {q x : Fa} : x ∈ fput l q ↔ x = q ∨ x ∈ l := by
  by_cases hm : q ∈ l
  · rw [fput_yes hm]
    constructor
    · exact .inr
    · rintro (rfl | h)
      · exact hm
      · exact h
  · rw [fput_no hm]
    conv => rhs; rw [← List.take_append_drop (at_ l q) l]
    simp only [List.mem_append, List.mem_cons]
    constructor
    · rintro (h | h | h)
      · exact .inr (.inl h)
      · exact .inl h
      · exact .inr (.inr h)
    · rintro (h | h | h)
      · exact .inr (.inl h)
      · exact .inl h
      · exact .inr (.inr h)
theorem fput_len (l : List Fa) (q : Fa) : (fput l q).length ≤ l.length + 1 := by
  unfold fput; split
  · omega
  · simp; omega
theorem fcut_len (l : List Fa) (q : Fa) : (fcut l q).length ≤ l.length := by
  unfold fcut; split
  · simp; omega
  · omega
theorem mem_fcut {l : List Fa} (h : rises l) {q x : Fa} : x ∈ fcut l q ↔ x ∈ l ∧ x ≠ q := by
  by_cases hm : q ∈ l
  · obtain ⟨hk, e⟩ := (has_at h q).2 hm
    rw [fcut_yes hm]
    have hs : l = l.take (at_ l q) ++ l[at_ l q] :: l.drop (at_ l q + 1) := by rw [← List.drop_eq_getElem_cons hk, List.take_append_drop]
    have hp := h
    unfold rises at hp
    rw [hs, List.pairwise_append, List.pairwise_cons] at hp
    constructor
    · intro hx
      rcases List.mem_append.1 hx with hx | hx
      · refine ⟨List.mem_of_mem_take hx, fun c => ?_⟩
        have := hp.2.2 x hx _ (.head _)
        rw [e, c, (cF_zero (x := q) (y := q)).2 rfl] at this
        omega
      · refine ⟨List.mem_of_mem_drop hx, fun c => ?_⟩
        have := hp.2.1.1 x hx
        rw [e, c, (cF_zero (x := q) (y := q)).2 rfl] at this
        omega
    · rintro ⟨h1, h2⟩
      rw [hs] at h1
      rcases List.mem_append.1 h1 with h1 | h1
      · exact List.mem_append_left _ h1
      · rcases List.mem_cons.1 h1 with h1 | h1
        · exact absurd (h1.trans e) h2
        · exact List.mem_append_right _ h1
  · rw [fcut_no hm]
    exact ⟨fun hx => ⟨hx, fun c => hm (c ▸ hx)⟩, fun hx => hx.1⟩
/-- Two sets of the same facts are the same. -/
theorem rises_ext : ∀ {a b : List Fa}, rises a → rises b → (∀ x, x ∈ a ↔ x ∈ b) → a = b
  | [], [], _, _, _ => rfl
  | [], y :: b, _, _, h => by have := (h y).2 (.head _); cases this
  | x :: a, [], _, _, h => by have := (h x).1 (.head _); cases this
  | x :: a, y :: b, ha, hb, h => by
    unfold rises at ha hb
    rw [List.pairwise_cons] at ha hb
    have irr : ∀ z : Fa, ¬ cF z z < 0 := fun z => by rw [cF_zero.2 rfl]; omega
    have hxy : x = y := by
      rcases List.mem_cons.1 ((h x).1 (.head _)) with e | h1
      · exact e
      · rcases List.mem_cons.1 ((h y).2 (.head _)) with e | h2
        · exact e.symm
        · exact absurd (cF_trans (ha.1 y h2) (hb.1 x h1)) (irr x)
    subst hxy
    rw [rises_ext ha.2 hb.2 fun z => ?_]
    constructor
    · intro hz
      rcases List.mem_cons.1 ((h z).1 (.tail _ hz)) with e | h1
      · subst e; exact absurd (ha.1 z hz) (irr z)
      · exact h1
    · intro hz
      rcases List.mem_cons.1 ((h z).2 (.tail _ hz)) with e | h1
      · subst e; exact absurd (hb.1 z hz) (irr z)
      · exact h1
section
variable {C : Ctx} {k : List It} {E : Env} {Ps : List PA} {Os : List OA}
/-- A fact of one's own through and through. -/
theorem go_vo_fa {e : Nat} {A : Option Addr} {c : Nat} (x : Fa) {rr : List OA} (h : Rem (ol tU e A c x.a) Os rr) (g : Go C k E Ps (vo tFa x [.int .u32 x.p, .slice A x.a.length c] :: rr)) : Go C k E Ps Os :=
  go_imp _ [vo tFa x [.int .u32 x.p, .slice A x.a.length c]] h (fun hp h1 ⟨cs, r, s⟩ => sep_one (by
    obtain ⟨q1, q2, q3, q4⟩ := r
    rcases q4 with q | ⟨b, cur, e1, e2, e3, e4⟩
    · exact ⟨Heap.nil, Heap.nil_le _, Wr.nil, tFa_mk (sl_of_row (e := e) (h1 := Heap.nil) ⟨q1, q2, q3, .inl q⟩ (Heap.le_refl _) (Reps.flat tU_flat s))⟩
    · exact ⟨Heap.one b (.cells cur e (0, 0)), Heap.one_le e2, Wr.one, tFa_mk (sl_of_row (e := e) (h1 := Heap.one b (.cells cur e (0, 0))) ⟨q1, q2, q3, .inr ⟨b, cur, e1, by simp [Heap.one], e3, e4⟩⟩ (Heap.le_refl _) (Reps.flat tU_flat s))⟩)) g
end
/-- The set of some facts. -/
noncomputable def fof (l : List Fa) : List Fa := l.foldl fput []
theorem fof_next {l : List Fa} {k : Nat} (hk : k < l.length) : fof (l.take (k + 1)) = fput (fof (l.take k)) l[k] := by
  unfold fof
  rw [List.take_succ_eq_append_getElem hk, List.foldl_append]; rfl
theorem foldl_rises : ∀ (l s : List Fa), rises s → rises (l.foldl fput s)
  | [], _, h => h
  | x :: l, s, h => foldl_rises l _ (rises_fput h x)
theorem rises_fof (l : List Fa) : rises (fof l) := foldl_rises l [] .nil
theorem foldl_mem : ∀ (l s : List Fa) (x : Fa), x ∈ l.foldl fput s ↔ x ∈ s ∨ x ∈ l
  | [], s, x => by simp
  | y :: l, s, x => by
    rw [List.foldl_cons, foldl_mem l, mem_fput, List.mem_cons]
    constructor
    · rintro ((h | h) | h)
      · exact .inr (.inl h)
      · exact .inl h
      · exact .inr (.inr h)
    · rintro (h | h | h)
      · exact .inl (.inr h)
      · exact .inl (.inl h)
      · exact .inr h
theorem mem_fof {l : List Fa} {x : Fa} : x ∈ fof l ↔ x ∈ l := by simp [fof, foldl_mem]
theorem foldl_flen : ∀ (l s : List Fa), (l.foldl fput s).length ≤ s.length + l.length
  | [], s => by simp
  | y :: l, s => by
    have h1 := foldl_flen l (fput s y)
    have h2 := fput_len s y
    rw [List.foldl_cons, List.length_cons]
    omega
theorem fof_len (l : List Fa) : (fof l).length ≤ l.length := by have := foldl_flen l []; simpa [fof] using this
theorem filt_all {α : Type} (l : List α) : l.filter (fun _ => true) = l := by simp
theorem rises_filter {l : List Fa} (h : rises l) (p : Fa → Bool) : rises (l.filter p) := List.Pairwise.sublist List.filter_sublist h
theorem rises_nil : rises [] := .nil
theorem has_yes {l : List Fa} {q : Fa} (h : rises l) (hi : at_ l q < l.length) : decide (q ∈ l) = decide (cmpF l[at_ l q].p l[at_ l q].a q.p q.a = 0) := by
  rw [decide_eq_decide, ← has_at h q]
  exact ⟨fun ⟨_, g⟩ => cmpF_zero.2 g, fun g => ⟨hi, cmpF_zero.1 g⟩⟩
theorem has_no {l : List Fa} {q : Fa} (h : rises l) (hi : ¬ at_ l q < l.length) : decide (q ∈ l) = false := by
  rw [decide_eq_false_iff_not, ← has_at h q]
  rintro ⟨hk, _⟩; omega
/-- What is in one and not in another. -/
noncomputable def less (a b : List Fa) : List Fa := a.filter (fun x => !decide (x ∈ b))
end Go.Proofs.Ytdkfpgdfjnaciaa.SL
