/- What was put last of each question, the newest first; the cache is the first of these, the oldest first. -/
import Derived.Test.YtdkfpgdfjnaciaaD2
set_option linter.unusedVariables false
set_option linter.unusedSimpArgs false
namespace Go.Proofs.Ytdkfpgdfjnaciaa.SL
/-- The newest first: of each question what was put last. -/
def recent : List En → List En
  | [] => []
  | x :: r => x :: (recent r).filter fun y => decide (¬ y.1 = x.1)
theorem keysApart_filter {l : List En} (h : keysApart l) (p : En → Bool) : keysApart (l.filter p) := by
  unfold keysApart at *
  exact h.sublist (List.filter_sublist.map _)
theorem recent_apart : ∀ P : List En, keysApart (recent P)
  | [] => keysApart_nil
  | x :: P => by
    unfold recent keysApart
    rw [List.map_cons, List.nodup_cons]
    refine ⟨fun h => ?_, keysApart_filter (recent_apart P) _⟩
    obtain ⟨y, hy, e⟩ := List.mem_map.1 h
    have := (List.mem_filter.1 hy).2
    simp at this
    exact this e
theorem recent_snoc : ∀ (P : List En) (x : En), recent (P ++ [x]) = if x.1 ∈ (recent P).map (·.1) then recent P else recent P ++ [x]
  | [], x => by simp [recent]
  | y :: P, x => by
    simp only [List.cons_append, recent, recent_snoc P x, List.map_cons, List.mem_cons]
    by_cases h1 : x.1 ∈ (recent P).map (·.1)
    · rw [if_pos h1]
      by_cases h2 : x.1 = y.1
      · rw [if_pos (.inl h2)]
      · rw [if_pos]
        right
        obtain ⟨z, hz, e⟩ := List.mem_map.1 h1
        exact List.mem_map.2 ⟨z, List.mem_filter.2 ⟨hz, by simp [e, h2]⟩, e⟩
    · rw [if_neg h1, List.filter_append]
      by_cases h2 : x.1 = y.1
      · rw [if_pos (.inl h2)]
        simp [h2]
      · rw [if_neg]
        · simp [h2]
        · rintro (h | h)
          · exact h2 h
          · obtain ⟨z, hz, e⟩ := List.mem_map.1 h
            exact h1 (List.mem_map.2 ⟨z, (List.mem_filter.1 hz).1, e⟩)
theorem recent_prefix (P : List En) : ∀ Z : List En, ∃ t, recent (P ++ Z) = recent P ++ t := by
  intro Z
  induction Z using List.reverseRecOn' with
  | nil => exact ⟨[], by simp⟩
  | snoc Z x ih =>
    obtain ⟨t, h⟩ := ih
    rw [← List.append_assoc, recent_snoc]
    split
    · exact ⟨t, h⟩
    · exact ⟨t ++ [x], by rw [h, List.append_assoc]⟩
where
  List.reverseRecOn' {motive : List En → Prop} (l : List En) (nil : motive []) (snoc : ∀ (l : List En) (x : En), motive l → motive (l ++ [x])) : motive l := by
    have : ∀ n (l : List En), l.length = n → motive l := by
      intro n
      induction n with
      | zero => intro l hl; rw [List.eq_nil_of_length_eq_zero hl]; exact nil
      | succ n ih =>
        intro l hl
        have hne : l ≠ [] := fun e => by subst e; simp at hl
        rw [← List.dropLast_concat_getLast hne]
        exact snoc _ _ (ih _ (by simp [hl]))
    exact this _ l rfl
theorem filter_keys {l : List En} (h : keysApart l) (q : Fa) : delAt l (plc q l) = l.filter fun y => decide (¬ y.1 = q) := by
  rcases plc_cases q l with ⟨h1, h2⟩ | ⟨k, hk, h1, h2, _⟩
  · rw [delAt_none (by omega)]
    rw [List.find?_eq_none] at h2
    exact (List.filter_eq_self.2 fun x hx => by simpa using h2 x hx).symm
  · rw [delAt_hit h1]
    have hs : l = l.take k ++ l[k] :: l.drop (k + 1) := by rw [← List.drop_eq_getElem_cons hk, List.take_append_drop]
    have h' := h
    unfold keysApart at h'
    rw [hs, List.map_append, List.map_cons, List.nodup_append] at h'
    obtain ⟨n1, n2, n3⟩ := h'
    rw [List.nodup_cons] at n2
    conv => rhs; rw [hs]
    rw [List.filter_append, List.filter_cons_of_neg (by simp [h2])]
    congr 1
    · refine (List.filter_eq_self.2 fun x hx => ?_).symm
      have := n3 x.1 (List.mem_map_of_mem hx) l[k].1 (.head _)
      simp [← h2, this]
    · refine (List.filter_eq_self.2 fun x hx => ?_).symm
      have : ¬ x.1 = q := fun e => n2.1 (by rw [h2, ← e]; exact List.mem_map_of_mem hx)
      simp [this]
theorem filter_count : ∀ {l : List En}, keysApart l → ∀ q, l.length ≤ (l.filter fun y => decide (¬ y.1 = q)).length + 1
  | [], _, _ => by simp
  | x :: l, h, q => by
    unfold keysApart at h
    rw [List.map_cons, List.nodup_cons] at h
    by_cases e : x.1 = q
    · rw [List.filter_cons_of_neg (by simp [e])]
      have : l.filter (fun y => decide (¬ y.1 = q)) = l := List.filter_eq_self.2 fun y hy => by
        have : ¬ y.1 = q := fun e' => h.1 (by rw [e, ← e']; exact List.mem_map_of_mem hy)
        simp [this]
      rw [this]; simp
    · rw [List.filter_cons_of_pos (by simp [e])]
      have := filter_count h.2 q
      simp only [List.length_cons]; omega
theorem take_filter {R : List En} (h : keysApart R) (q : Fa) (n : Nat) : ((R.take (n + 1)).filter fun y => decide (¬ y.1 = q)).take n = (R.filter fun y => decide (¬ y.1 = q)).take n := by
  rcases Nat.lt_or_ge R.length (n + 1) with hl | hl
  · rw [List.take_of_length_le (l := R) (by omega)]
  · have hk : keysApart (R.take (n + 1)) := by unfold keysApart at *; exact h.sublist ((List.take_sublist _ _).map _)
    have := filter_count hk q
    conv => rhs; rw [← List.take_append_drop (n + 1) R, List.filter_append]
    rw [List.take_append_of_le_length]
    rw [List.length_take] at this; omega
/-- A cache of room n holds the n newest. -/
def held (n : Nat) (P : List En) : List En := ((recent P).take n).reverse
theorem held_apart (n : Nat) (P : List En) : keysApart (held n P) := by
  unfold held keysApart
  rw [List.map_reverse, List.Perm.nodup_iff (List.reverse_perm _)]
  exact (recent_apart P).sublist ((List.take_sublist _ _).map _)
theorem cput_held {n : Nat} (hn : 1 ≤ n) (P : List En) (q : Fa) (v : Int) : cput (n : Int) (held n P) q v = held n ((q, v) :: P) := by
  obtain ⟨n, rfl⟩ : ∃ m, n = m + 1 := ⟨n - 1, by omega⟩
  have e0 : delAt (held (n + 1) P) (plc q (held (n + 1) P)) = (((recent P).take (n + 1)).filter fun y => decide (¬ y.1 = q)).reverse := by
    rw [filter_keys (held_apart _ _), held, List.filter_reverse]
  have e1 := take_filter (recent_apart P) q n
  have e2 : held (n + 1) ((q, v) :: P) = (((recent P).filter fun y => decide (¬ y.1 = q)).take n).reverse ++ [(q, v)] := by
    simp [held, recent]
  rw [e2, ← e1]
  unfold cput
  rw [e0]
  generalize hF : ((recent P).take (n + 1)).filter (fun y => decide (¬ y.1 = q)) = F
  have hlen : F.length ≤ n + 1 := by
    rw [← hF]
    exact Nat.le_trans (List.length_filter_le _ _) (by simp; omega)
  by_cases hc : F.length = n + 1
  · rw [if_pos (by simp; omega)]
    have hne : F ≠ [] := fun e => by subst e; simp at hc
    have : F = F.take n ++ [F[n]] := by
      conv => lhs; rw [← List.take_append_drop n F, List.drop_eq_getElem_cons (by omega), List.drop_of_length_le (by omega)]
    conv => lhs; rw [this]
    rw [List.reverse_append]
    simp
  · rw [if_neg (by simp; omega), List.take_of_length_le (by omega)]
theorem held_nil (n : Nat) : held n [] = [] := by simp [held, recent]
theorem held_len (n : Nat) (P : List En) : (held n P).length = min n (recent P).length := by simp [held]
theorem cget_held {n : Nat} {P A t : List En} {x : En} (h : recent P = A ++ x :: t) : cget (held n P) x.1 = (if A.length < n then x.2 else 0, decide (A.length < n)) := by
  have hap := recent_apart P
  by_cases hlt : A.length < n
  · rw [if_pos hlt, decide_eq_true hlt]
    refine cget_self (held_apart n P) x ?_
    unfold held
    rw [List.mem_reverse, h, List.mem_take_iff_getElem]
    exact ⟨A.length, by simp; omega, by simp⟩
  · rw [if_neg hlt, decide_eq_false hlt]
    refine cget_none ?_
    rw [List.find?_eq_none]
    intro y hy
    unfold held at hy
    rw [List.mem_reverse, h, List.take_append_of_le_length (by omega)] at hy
    have hy := List.mem_of_mem_take hy
    unfold keysApart at hap
    rw [h, List.map_append, List.map_cons, List.nodup_append] at hap
    have := hap.2.2 y.1 (List.mem_map_of_mem hy) x.1 (.head _)
    simpa using this
/-! ### the steps' puts, the newest first -/
def putsRev : List Sc → List En
  | [] => []
  | s :: r => if s.c then [] else if s.k then putsRev r else (s.q, s.v) :: putsRev r
theorem putsRev_next {l : List Sc} {k : Nat} (hk : k < l.length) : putsRev (l.take (k + 1)).reverse = if l[k].c then [] else if l[k].k then putsRev (l.take k).reverse else (l[k].q, l[k].v) :: putsRev (l.take k).reverse := by
  rw [List.take_succ_eq_append_getElem hk, List.reverse_append]
  rfl
/-- Walking back from the end: what came up, and what is left. -/
theorem back_all {l : List Sc} {k : Nat} (hk : k = 0 ∨ ∃ h : k - 1 < l.length, l[k - 1].c = true) (hk2 : k ≤ l.length) {D : List En} (h : putsRev l.reverse = D ++ putsRev (l.take k).reverse) : putsRev l.reverse = D := by
  rcases hk with rfl | ⟨h1, h2⟩
  · simpa [putsRev] using h
  · rcases Nat.eq_zero_or_pos k with rfl | hp
    · simpa [putsRev] using h
    · obtain ⟨k, rfl⟩ : ∃ m, k = m + 1 := ⟨k - 1, by omega⟩
      simp only [Nat.add_sub_cancel] at h1 h2
      rw [putsRev_next (by omega), if_pos h2, List.append_nil] at h
      exact h
theorem putsRev_ok : ∀ {l : List Sc}, (∀ x ∈ l, x.ok) → ∀ y ∈ putsRev l, y.1.ok
  | [], _, y, hy => by cases hy
  | s :: r, h, y, hy => by
    unfold putsRev at hy
    split at hy
    · cases hy
    · split at hy
      · exact putsRev_ok (fun x hx => h x (.tail _ hx)) y hy
      · rcases List.mem_cons.1 hy with rfl | hy
        · exact (h s (.head _)).1
        · exact putsRev_ok (fun x hx => h x (.tail _ hx)) y hy
theorem recent_mem : ∀ {P : List En} {x : En}, x ∈ recent P → x ∈ P
  | [], _, h => by cases h
  | y :: P, x, h => by
    unfold recent at h
    rcases List.mem_cons.1 h with rfl | h
    · exact .head _
    · exact .tail _ (recent_mem (List.mem_filter.1 h).1)
theorem held_ok {n : Nat} {P : List En} (h : ∀ y ∈ P, y.1.ok) : ∀ y ∈ held n P, y.1.ok := fun y hy => by
  unfold held at hy
  exact h y (recent_mem (List.mem_of_mem_take (List.mem_reverse.1 hy)))
theorem mem_step {q : Fa} {xs : List Fa} {j : Nat} (hj : j < xs.length) {is r : Bool} (h : (is = decide (q ∈ xs.take j) ∧ is = true ∧ r = true) ∨ (is = decide (q ∈ xs.take j) ∧ is = false ∧ r = decide (xs[j] = q))) : r = decide (q ∈ xs.take (j + 1)) := by
  have e : (q ∈ xs.take (j + 1)) ↔ (q ∈ xs.take j ∨ q = xs[j]) := by
    rw [List.take_succ_eq_append_getElem hj, List.mem_append, List.mem_singleton]
  rcases h with ⟨h1, h2, h3⟩ | ⟨h1, h2, h3⟩
  · rw [h2] at h1
    rw [h3, eq_comm, decide_eq_true_eq]
    exact e.2 (.inl (of_decide_eq_true h1.symm))
  · rw [h2] at h1
    rw [h3, decide_eq_decide, e]
    have := of_decide_eq_false h1.symm
    exact ⟨fun q => .inr q.symm, fun q => by rcases q with q | q; · exact absurd q this
                                             · exact q.symm⟩
section
variable {C : Ctx} {k : List It} {E : Env} {Ps : List PA} {Os : List OA}
theorem go_rp_fa {x : Fa} {ds : List Value} (h : rp tFa x ds ∈ Ps) (g : ∀ A c, ds = [.int .u32 x.p, .slice A x.a.length c] → Go C k E (sl tU A c x.a :: Ps) Os) : Go C k E Ps Os := fun a w hp ho hf hs hb => by
  obtain ⟨A, c, e, s⟩ := tFa_open (hs.ps _ h)
  exact g A c e a w hp ho hf (hs.addp s) hb
end
end Go.Proofs.Ytdkfpgdfjnaciaa.SL
