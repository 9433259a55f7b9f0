/- Rows of facts with the places of their Args; sorted, each once. -/
import Derived.Test.YtdkfpgdfjnaciaaD9
set_option linter.unusedVariables false
set_option linter.unusedSimpArgs false
namespace Go.Proofs.Ytdkfpgdfjnaciaa.SL
structure Fy where
  f : Fa
  A : Option Addr
  c : Nat
def fcY (x : Fy) : List Value := [.int .u32 x.f.p, .slice x.A x.f.a.length x.c]
def tFy : Ty Fy := ⟨2, fun h x cs => cs = fcY x ∧ Sl tU h x.A x.c x.f.a, fun ⟨e, _⟩ => by subst e; rfl, fun ⟨e, _⟩ => by subst e; rfl, fun hl ⟨e, s⟩ => ⟨e, s.up hl⟩⟩
theorem fcY_eq : ∀ (h : Heap) (x : Fy) (cs : List Value), tFy.rep h x cs → cs = fcY x := fun _ _ _ h => h.1
theorem Reps.toY {h : Heap} : ∀ {l : List Fa} {cs : List Value}, Reps tFa h l cs → ∃ xs : List Fy, xs.map (fun x : Fy => x.f) = l ∧ Reps tFy h xs cs
  | [], cs, e => ⟨[], rfl, e⟩
  | x :: l, _, ⟨a, b, e, r, s⟩ => by
    obtain ⟨A, c, rfl, sx⟩ := tFa_open r
    obtain ⟨xs, h1, h2⟩ := Reps.toY s
    exact ⟨⟨x, A, c⟩ :: xs, by simp [h1], _, _, e, ⟨rfl, sx⟩, h2⟩
theorem Reps.ofY {h : Heap} : ∀ {xs : List Fy} {cs : List Value}, Reps tFy h xs cs → Reps tFa h (xs.map fun x : Fy => x.f) cs
  | [], _, e => e
  | x :: xs, _, ⟨a, b, e, ⟨r, sx⟩, s⟩ => ⟨a, b, e, by rw [r]; exact tFa_mk sx, s.ofY⟩
section
variable {C : Ctx} {k : List It} {E : Env} {Ps : List PA} {Os : List OA}
theorem go_toY {e : Nat} {A : Option Addr} {c : Nat} {l : List Fa} {rr : List OA} (h : Rem (ol tFa e A c l) Os rr) (g : ∀ xs : List Fy, xs.map (fun x : Fy => x.f) = l → xs.length = l.length → Go C k E Ps (ol tFy e A c xs :: rr)) : Go C k E Ps Os := fun a w hp ho hf hs hb => by
  obtain ⟨g1, g2, i, b, d, ⟨cs, r, s⟩, sp⟩ := Sep.rem h hs.os
  obtain ⟨xs, h1, h2⟩ := s.toY
  have hl : xs.length = l.length := by rw [← h1]; simp
  exact g xs h1 hl a w hp ho hf ⟨hs.inp, hs.ino, hs.dj, hs.ps, g1, g2, i, b, d, ⟨cs, by rw [hl]; exact r, h2⟩, sp⟩ hb
theorem go_ofY {e : Nat} {A : Option Addr} {c : Nat} {xs : List Fy} {rr : List OA} (h : Rem (ol tFy e A c xs) Os rr) (g : Go C k E Ps (ol tFa e A c (xs.map fun x : Fy => x.f) :: rr)) : Go C k E Ps Os := fun a w hp ho hf hs hb => by
  obtain ⟨g1, g2, i, b, d, ⟨cs, r, s⟩, sp⟩ := Sep.rem h hs.os
  exact g a w hp ho hf ⟨hs.inp, hs.ino, hs.dj, hs.ps, g1, g2, i, b, d, ⟨cs, by rw [List.length_map]; exact r, s.ofY⟩, sp⟩ hb
/-- An element: its Args are read, its place is known. -/
theorem go_atY {e : Nat} {A : Option Addr} {c : Nat} {xs : List Fy} {rr : List OA} (h : Rem (ol tFy e A c xs) Os rr) (j : Nat) {x : Fy} (hj : xs[j]? = some x) (g : Go C k E (sl tU x.A x.c x.f.a :: Ps) Os) : Go C k E Ps Os := fun a w hp ho hf hs hb => by
  obtain ⟨g1, g2, i, b, d, ⟨cs, r, s⟩, sp⟩ := Sep.rem h hs.os
  obtain ⟨ds, ⟨_, h1⟩, _⟩ := s.at j x hj
  exact g a w hp ho hf (hs.addp (q := sl tU x.A x.c x.f.a) h1) hb
theorem ent_Y {x : Fy} (h : sl tU x.A x.c x.f.a ∈ Ps) : Ent Ps (rp tFy x (fcY x)) := fun hp a => ⟨rfl, a _ h⟩
end
theorem getF {xs : List Fy} {l : List Fa} (h : xs.map (fun x : Fy => x.f) = l) {j : Nat} (hj : j < xs.length) (hj' : j < l.length) : xs[j].f = l[j] := by subst h; simp
/-! ### insertion from behind -/
theorem set_mid {α : Type} {l : List α} {n : Nat} {w z : α} (hn : n ≤ l.length) : (l.take n ++ w :: l.drop n).set n z = l.take n ++ z :: l.drop n := by
  rw [List.set_append_right _ _ (by simp; omega)]
  simp [Nat.min_eq_left hn]
theorem mid_back {α : Type} {l : List α} {n : Nat} (h0 : 0 < n) (hn : n - 1 < l.length) : l.take n ++ l[n - 1] :: l.drop n = l.take (n - 1) ++ l[n - 1] :: l.drop (n - 1) := by
  have h1 : l.take n = l.take (n - 1) ++ [l[n - 1]] := by
    have := List.take_succ_eq_append_getElem hn
    rwa [show n - 1 + 1 = n by omega] at this
  have h2 : l.drop (n - 1) = l[n - 1] :: l.drop n := by rw [List.drop_eq_getElem_cons hn, show n - 1 + 1 = n by omega]
  conv => lhs; rw [h1]
  rw [h2, List.append_assoc]; rfl
theorem mid_get {α : Type} {l : List α} {n j : Nat} {w : α} (hn : n ≤ l.length) (hj : j < n) : (l.take n ++ w :: l.drop n)[j]? = some (l[j]'(by omega)) := by
  rw [List.getElem?_append_left (by simp; omega), List.getElem?_take, if_pos hj, List.getElem?_eq_getElem (by omega)]
theorem mid_len {α : Type} {l : List α} {n : Nat} {w : α} (hn : n ≤ l.length) : (l.take n ++ w :: l.drop n).length = l.length + 1 := by simp; omega
theorem fput_at {l : List Fa} {q : Fa} (hq : ¬ q ∈ l) (hr : rises l) {n : Nat} (hn : n ≤ l.length) (h1 : ∀ x ∈ l.drop n, 0 < cF x q) (h2 : ∀ (h : 0 < n), ¬ 0 < cF (l[n - 1]'(by omega)) q) : l.take n ++ q :: l.drop n = fput l q := by
  have : at_ l q = n := by
    refine at_of hn ?_ (fun x hx c => by have := h1 x hx; omega)
    rcases Nat.eq_zero_or_pos n with rfl | h0
    · intro x hx; simp at hx
    · have h3 : cF (l[n - 1]'(by omega)) q < 0 := by
        have := h2 h0
        have h4 : cF (l[n - 1]'(by omega)) q ≠ 0 := fun e => hq (by rw [← cF_zero.1 e]; exact List.getElem_mem _)
        omega
      have := rises_take hr (k := n - 1) (by omega) h3
      rwa [show n - 1 + 1 = n by omega] at this
  rw [fput_no hq, this]
/-! ### neighbours that are the same, once -/
def dd : List Fa → List Fa
  | [] => []
  | [x] => [x]
  | x :: y :: l => if x = y then dd (y :: l) else x :: dd (y :: l)
theorem dd_len : ∀ l : List Fa, (dd l).length ≤ l.length
  | [] => Nat.le_refl _
  | [x] => Nat.le_refl _
  | x :: y :: l => by
    have := dd_len (y :: l)
    unfold dd
    split <;> simp at this ⊢ <;> omega
theorem dd_snoc : ∀ (l : List Fa) (a b : Fa), dd (l ++ [a, b]) = if a = b then dd (l ++ [a]) else dd (l ++ [a]) ++ [b]
  | [], a, b => by
    by_cases h : a = b <;> simp [dd, h]
  | [x], a, b => by
    by_cases h : a = b
    · subst h; by_cases g : x = a <;> simp [dd, g]
    · by_cases g : x = a <;> simp [dd, g, h]
  | x :: y :: l, a, b => by
    have := dd_snoc (y :: l) a b
    simp only [List.cons_append] at this ⊢
    by_cases g : x = y
    · simp only [dd, g, if_true]; exact this
    · simp only [dd, g, if_false, this]; split <;> rfl
theorem dd_next {l : List Fa} {k : Nat} (h0 : 0 < k) (hk : k < l.length) : dd (l.take (k + 1)) = if l[k - 1] = l[k] then dd (l.take k) else dd (l.take k) ++ [l[k]] := by
  have h1 : l.take k = l.take (k - 1) ++ [l[k - 1]] := by
    have := List.take_succ_eq_append_getElem (l := l) (i := k - 1) (by omega)
    rwa [show k - 1 + 1 = k by omega] at this
  rw [List.take_succ_eq_append_getElem hk, h1, List.append_assoc]
  exact dd_snoc _ _ _
theorem dd_mem : ∀ {l : List Fa} {x : Fa}, x ∈ dd l ↔ x ∈ l
  | [], x => by simp [dd]
  | [y], x => by simp [dd]
  | y :: z :: l, x => by
    unfold dd
    split
    · rename_i e; subst e; rw [dd_mem (l := y :: l)]; simp
    · rw [List.mem_cons, dd_mem (l := z :: l), List.mem_cons (a := x) (b := y)]
theorem dd_rises : ∀ {l : List Fa}, l.Pairwise (fun x y => ¬ cF y x < 0) → rises (dd l)
  | [], _ => .nil
  | [x], _ => by unfold rises dd; simp
  | x :: y :: l, h => by
    rw [List.pairwise_cons] at h
    unfold dd
    split
    · exact dd_rises h.2
    · rename_i hne
      unfold rises
      rw [List.pairwise_cons]
      refine ⟨fun z hz => ?_, dd_rises h.2⟩
      have hz' : z ∈ y :: l := dd_mem.1 hz
      have h1 : ¬ cF z x < 0 := h.1 z hz'
      have h2 : ¬ cF y x < 0 := h.1 y (.head _)
      have h3 : cF x y < 0 := by
        rcases cF_range x y with e | e | e
        · omega
        · exact absurd (cF_zero.1 e) hne
        · rw [cF_swap] at e; omega
      rcases List.mem_cons.1 hz' with rfl | hz2
      · exact h3
      · have h4 : ¬ cF z y < 0 := (List.pairwise_cons.1 h.2).1 z hz2
        rcases cF_range y z with e | e | e
        · exact cF_trans h3 (by omega)
        · rw [← cF_zero.1 e]; exact h3
        · rw [cF_swap] at e; omega
theorem dd_sorted {l m : List Fa} (hp : l.Perm m) (hs : m.Pairwise fun x y => ¬ cF y x < 0) : dd m = fof l :=
  rises_ext (dd_rises hs) (rises_fof l) fun x => by rw [dd_mem, mem_fof]; exact hp.symm.mem_iff
/-! ### where something is so -/
def idxF (p : Fa → Bool) (l : List Fa) : Int := match l.findIdx? p with | some j => (j : Int) | none => -1
theorem idxF_hit {p : Fa → Bool} {l : List Fa} {k : Nat} (hk : k < l.length) (hz : ∀ y ∈ l.take k, p y = false) (e : p l[k] = true) : l.findIdx? p = some k := by
  rw [List.findIdx?_eq_some_iff_getElem]
  refine ⟨hk, e, fun j hj => ?_⟩
  have := hz l[j] (List.mem_take_iff_getElem.2 ⟨j, by omega, rfl⟩)
  simp [this]
theorem idxF_none {p : Fa → Bool} {l : List Fa} (hz : ∀ y ∈ l, p y = false) : l.findIdx? p = none := by
  rw [List.findIdx?_eq_none_iff]
  intro y hy; simpa using hz y hy
theorem idxF_any (p : Fa → Bool) (l : List Fa) : l.any p = decide (0 ≤ idxF p l) := by
  unfold idxF
  cases e : l.findIdx? p with
  | none =>
    rw [List.findIdx?_eq_none_iff] at e
    have : l.any p = false := by rw [List.any_eq_false]; intro x hx; simpa using e x hx
    rw [this]; rfl
  | some j =>
    rw [List.findIdx?_eq_some_iff_getElem] at e
    obtain ⟨hj, h, _⟩ := e
    have : l.any p = true := List.any_eq_true.2 ⟨_, List.getElem_mem hj, h⟩
    rw [this]; simp
theorem any_mem (y : Fa) (l : List Fa) : decide (y ∈ l) = l.any (fun x => decide (x = y)) := by
  rw [Bool.eq_iff_iff, decide_eq_true_iff, List.any_eq_true]
  constructor
  · intro h; exact ⟨y, h, by simp⟩
  · rintro ⟨x, h, e⟩; rw [decide_eq_true_iff] at e; exact e ▸ h
theorem dd_short {l : List Fa} (h : l.length < 2) : dd l = l := by
  match l, h with
  | [], _ => rfl
  | [x], _ => rfl
theorem dd_keep {l : List Fa} {k : Nat} (h0 : 1 ≤ k) (hk : k < l.length) (hz : dd (l.take k) = l.take k) (hne : ¬ l[k] = l[k - 1]) : dd (l.take (k + 1)) = l.take (k + 1) := by
  rw [dd_next (by omega) hk, if_neg (fun e => hne e.symm), hz, List.take_succ_eq_append_getElem hk]
/-- How far the second half of Compact has come: m kept, i looked at behind k. -/
structure Cmp (l : List Fa) (xs ys : List Fy) (k m i : Nat) : Prop where
  len : ys.length = l.length
  lo : k ≤ m
  hi : m + 1 ≤ k + i
  i1 : 1 ≤ i
  i2 : i ≤ l.length - k
  kept : (ys.take m).map (fun x : Fy => x.f) = dd (l.take (k + i))
  rest : ys.drop (k + i - 1) = xs.drop (k + i - 1)
theorem Cmp.start {l : List Fa} {xs : List Fy} {k : Nat} (hx : xs.map (fun x : Fy => x.f) = l) (h0 : 1 ≤ k) (hk : k < l.length) (hz : dd (l.take k) = l.take k) (he : l[k] = l[k - 1]) : Cmp l xs xs k k 1 :=
  ⟨by rw [← hx]; simp, Nat.le_refl _, Nat.le_refl _, Nat.le_refl _, by omega, by rw [dd_next (by omega) hk, if_pos he.symm, hz, ← hx, List.map_take], rfl⟩
theorem Cmp.get {l : List Fa} {xs ys : List Fy} {k m i : Nat} (hx : xs.map (fun x : Fy => x.f) = l) (h : Cmp l xs ys k m i) {j : Nat} (hj : k + i - 1 ≤ j) (hl : j < ys.length) (hl2 : j < l.length) : ys[j].f = l[j] := by
  have hxl : xs.length = l.length := by rw [← hx]; simp
  have e : ys[j]? = xs[j]? := by
    have h1 : (ys.drop (k + i - 1))[j - (k + i - 1)]? = (xs.drop (k + i - 1))[j - (k + i - 1)]? := by rw [h.rest]
    rw [List.getElem?_drop, List.getElem?_drop, show k + i - 1 + (j - (k + i - 1)) = j by omega] at h1
    exact h1
  rw [List.getElem?_eq_getElem hl, List.getElem?_eq_getElem (by omega)] at e
  rw [Option.some.inj e]
  exact getF hx (by omega) hl2
theorem Cmp.skip {l : List Fa} {xs ys : List Fy} {k m i : Nat} (h : Cmp l xs ys k m i) (hi : k + i < l.length) (he : l[k + i] = l[k + i - 1]) : Cmp l xs ys k m (i + 1) :=
  ⟨h.len, h.lo, by have := h.hi; omega, by omega, by omega, by rw [h.kept, show k + (i + 1) = k + i + 1 by omega, dd_next (by have := h.i1; omega) hi, if_pos he.symm], by
    have h1 := congrArg (List.drop 1) h.rest
    have := h.i1
    rw [List.drop_drop, List.drop_drop, show k + i - 1 + 1 = k + (i + 1) - 1 by omega] at h1
    exact h1⟩
theorem Cmp.keep {l : List Fa} {xs ys : List Fy} {k m i : Nat} (hx : xs.map (fun x : Fy => x.f) = l) (h : Cmp l xs ys k m i) (hi : k + i < l.length) (hl : k + i < ys.length) (he : ¬ l[k + i] = l[k + i - 1]) : Cmp l xs (ys.set m ys[k + i]) k (m + 1) (i + 1) :=
  ⟨by rw [List.length_set]; exact h.len, by have := h.lo; omega, by have := h.hi; omega, by omega, by omega, by
    have h1 := h.hi
    have h2 := h.get hx (j := k + i) (by omega) hl hi
    rw [show k + (i + 1) = k + i + 1 by omega, dd_next (by have := h.i1; omega) hi, if_neg (fun e => he e.symm), List.take_succ_eq_append_getElem (by rw [List.length_set]; omega), List.map_append, List.take_set_of_le (Nat.le_refl _), h.kept]
    simp [h2], by
    have h1 := congrArg (List.drop 1) h.rest
    have h3 := h.hi
    have := h.i1
    rw [List.drop_drop, List.drop_drop, show k + i - 1 + 1 = k + (i + 1) - 1 by omega] at h1
    rw [List.drop_set_of_lt (by omega)]
    exact h1⟩
theorem Cmp.done {l : List Fa} {xs ys : List Fy} {k m i : Nat} (h : Cmp l xs ys k m i) (hi : l.length ≤ k + i) : (ys.take m).map (fun x : Fy => x.f) = dd l := by rw [h.kept, List.take_of_length_le hi]
theorem not_next {l : List Fa} {q : Fa} {k : Nat} (hk : k < l.length) (h : ¬ q ∈ l.take k) (g : ¬ cmpF l[k].p l[k].a q.p q.a = 0) : ¬ q ∈ l.take (k + 1) := by
  rw [List.take_succ_eq_append_getElem hk, List.mem_append, List.mem_singleton]
  rintro (c | c)
  · exact h c
  · exact g (cmpF_zero.2 c.symm)
theorem split_last {l : List Fa} {q : Fa} {ys : List Fy} (h : ys.map (fun x : Fy => x.f) = l ++ [q]) : ∃ xs w, ys = xs ++ [w] ∧ xs.map (fun x : Fy => x.f) = l ∧ w.f = q := by
  have hl : ys.length = l.length + 1 := by have := congrArg List.length h; simpa using this
  have e : ys = ys.take l.length ++ [ys[l.length]] := by rw [← List.take_succ_eq_append_getElem (by omega), List.take_of_length_le (by omega)]
  refine ⟨_, _, e, ?_⟩
  rw [e, List.map_append] at h
  have := List.append_inj' h (by simp)
  exact ⟨this.1, by simpa using this.2⟩
theorem drop_more {l : List Fa} {q : Fa} {n : Nat} (h0 : 0 < n) (hn : n - 1 < l.length) (hz : ∀ y ∈ l.drop n, 0 < cF y q) (h : 0 < cF l[n - 1] q) : ∀ y ∈ l.drop (n - 1), 0 < cF y q := by
  rw [List.drop_eq_getElem_cons hn, show n - 1 + 1 = n by omega]
  intro y hy
  rcases List.mem_cons.1 hy with rfl | hy
  · exact h
  · exact hz y hy
theorem mid_map {l : List Fa} {xs : List Fy} {n : Nat} {w : Fy} (hx : xs.map (fun x : Fy => x.f) = l) : (xs.take n ++ w :: xs.drop n).map (fun x : Fy => x.f) = l.take n ++ w.f :: l.drop n := by
  subst hx; simp
end Go.Proofs.Ytdkfpgdfjnaciaa.SL
