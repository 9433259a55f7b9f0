/- Sets of facts: lists that rise; where a fact stands. -/
import Derived.Test.YtdkfpgdfjnaciaaD2
import Derived.Test.YtdkfpgdfjnaciaaSA
set_option linter.unusedVariables false
set_option linter.unusedSimpArgs false
namespace Go.Proofs.Ytdkfpgdfjnaciaa.SL
def cF (x y : Fa) : Int := cmpF x.p x.a y.p y.a
theorem cmpL_swap : ∀ a b : List Int, cmpL a b = - cmpL b a
  | [], [] => rfl
  | [], _ :: _ => rfl
  | _ :: _, [] => rfl
  | x :: a, y :: b => by
    simp only [cmpL]
    by_cases h : x < y
    · rw [if_pos h, if_neg (by omega), if_pos h]
    · by_cases g : y < x
      · rw [if_neg h, if_pos g, if_pos g]; rfl
      · rw [if_neg h, if_neg g, if_neg g, if_neg h, cmpL_swap a b]
theorem cmpL_range : ∀ a b : List Int, cmpL a b = -1 ∨ cmpL a b = 0 ∨ cmpL a b = 1
  | [], [] => .inr (.inl rfl)
  | [], _ :: _ => .inl rfl
  | _ :: _, [] => .inr (.inr rfl)
  | x :: a, y :: b => by
    simp only [cmpL]
    split
    · exact .inl rfl
    · split
      · exact .inr (.inr rfl)
      · exact cmpL_range a b
theorem cF_swap (x y : Fa) : cF x y = - cF y x := by
  unfold cF cmpF
  by_cases h1 : x.p < y.p
  · simp [h1, show ¬ y.p < x.p by omega]
  · by_cases h2 : y.p < x.p
    · simp [h1, h2]
    · by_cases h3 : x.a.length < y.a.length
      · simp [h1, h2, h3, show ¬ y.a.length < x.a.length by omega]
      · by_cases h4 : y.a.length < x.a.length
        · simp [h1, h2, h3, h4]
        · simp only [h1, h2, h3, h4, if_false]; exact cmpL_swap _ _
theorem cF_range (x y : Fa) : cF x y = -1 ∨ cF x y = 0 ∨ cF x y = 1 := by
  unfold cF cmpF
  split
  · exact .inl rfl
  · split
    · exact .inr (.inr rfl)
    · split
      · exact .inl rfl
      · split
        · exact .inr (.inr rfl)
        · exact cmpL_range _ _
theorem cF_zero {x y : Fa} : cF x y = 0 ↔ x = y := cmpF_zero
theorem cmpL_trans : ∀ {a b c : List Int}, cmpL a b < 0 → cmpL b c < 0 → cmpL a c < 0
  | [], [], _, h, _ => by simp [cmpL] at h
  | [], _ :: _, [], _, h => by simp [cmpL] at h
  | [], _ :: _, _ :: _, _, _ => by simp [cmpL]
  | _ :: _, [], _, h, _ => by simp [cmpL] at h
  | _ :: _, _ :: _, [], _, h => by simp [cmpL] at h
  | x :: a, y :: b, z :: c, h, g => by
    simp only [cmpL] at h g ⊢
    by_cases h1 : x < y
    · by_cases g1 : y < z
      · rw [if_pos (by omega)]; omega
      · rw [if_neg g1] at g
        by_cases g2 : z < y
        · rw [if_pos g2] at g; omega
        · rw [if_pos (by omega)]; omega
    · rw [if_neg h1] at h
      by_cases h2 : y < x
      · rw [if_pos h2] at h; omega
      · rw [if_neg h2] at h
        by_cases g1 : y < z
        · rw [if_pos (by omega)]; omega
        · rw [if_neg g1] at g
          by_cases g2 : z < y
          · rw [if_pos g2] at g; omega
          · rw [if_neg g2] at g
            rw [if_neg (by omega), if_neg (by omega)]
            exact cmpL_trans h g
theorem cF_lt_iff (x y : Fa) : cF x y < 0 ↔ x.p < y.p ∨ (x.p = y.p ∧ (x.a.length < y.a.length ∨ (x.a.length = y.a.length ∧ cmpL x.a y.a < 0))) := by
  unfold cF cmpF
  by_cases h1 : x.p < y.p
  · simp [h1]
  · by_cases h2 : y.p < x.p
    · simp [h1, h2]; omega
    · by_cases h3 : x.a.length < y.a.length
      · simp [h1, h2, h3]; omega
      · by_cases h4 : y.a.length < x.a.length
        · simp [h1, h2, h3, h4]; omega
        · simp only [h1, h2, h3, h4, if_false, false_or]
          constructor
          · intro h; exact ⟨by omega, by omega, h⟩
          · exact fun h => h.2.2
theorem cF_trans {x y z : Fa} (h : cF x y < 0) (g : cF y z < 0) : cF x z < 0 := by
  rw [cF_lt_iff] at *
  rcases h with h | ⟨h1, h | ⟨h2, h3⟩⟩ <;> rcases g with g | ⟨g1, g | ⟨g2, g3⟩⟩
  · left; omega
  · left; omega
  · left; omega
  · left; omega
  · right; exact ⟨by omega, .inl (by omega)⟩
  · right; exact ⟨by omega, .inl (by omega)⟩
  · left; omega
  · right; exact ⟨by omega, .inl (by omega)⟩
  · right; exact ⟨by omega, .inr ⟨by omega, cmpL_trans h3 g3⟩⟩
/-- The facts rise. -/
def rises (l : List Fa) : Prop := l.Pairwise fun x y => cF x y < 0
/-- How many stand ahead of a fact. -/
def at_ (l : List Fa) (q : Fa) : Nat := (l.takeWhile fun x => decide (cF x q < 0)).length
theorem at_le (l : List Fa) (q : Fa) : at_ l q ≤ l.length := (List.takeWhile_sublist _).length_le
/-- The place, found from two sides. -/
theorem at_of {l : List Fa} {q : Fa} {i : Nat} (hi : i ≤ l.length) (h1 : ∀ x ∈ l.take i, cF x q < 0) (h2 : ∀ x ∈ l.drop i, ¬ cF x q < 0) : at_ l q = i := by
  unfold at_
  have e : l.takeWhile (fun x => decide (cF x q < 0)) = l.take i := by
    conv => lhs; rw [← List.take_append_drop i l]
    rw [List.takeWhile_append_of_pos (fun x hx => by simpa using h1 x hx)]
    have : (l.drop i).takeWhile (fun x => decide (cF x q < 0)) = [] := by
      cases hd : l.drop i with
      | nil => rfl
      | cons y r =>
        have := h2 y (by rw [hd]; exact .head _)
        simp [List.takeWhile_cons, this]
    rw [this, List.append_nil]
  rw [e]; simp; omega
theorem rises_take {l : List Fa} (h : rises l) {k : Nat} (hk : k < l.length) {q : Fa} (g : cF l[k] q < 0) : ∀ x ∈ l.take (k + 1), cF x q < 0 := by
  rw [List.take_succ_eq_append_getElem hk]
  intro x hx
  rcases List.mem_append.1 hx with hx | hx
  · obtain ⟨j, hj, rfl⟩ := List.mem_take_iff_getElem.1 hx
    have := List.pairwise_iff_getElem.1 h j k (by omega) hk (by omega)
    exact cF_trans this g
  · simp at hx; subst hx; exact g
theorem rises_drop {l : List Fa} (h : rises l) {k : Nat} (hk : k < l.length) {q : Fa} (g : ¬ cF l[k] q < 0) : ∀ x ∈ l.drop k, ¬ cF x q < 0 := by
  rw [List.drop_eq_getElem_cons hk]
  intro x hx
  rcases List.mem_cons.1 hx with rfl | hx
  · exact g
  · obtain ⟨j, hj, rfl⟩ := List.getElem_of_mem hx
    rw [List.getElem_drop]
    have := List.pairwise_iff_getElem.1 h k (k + 1 + j) hk (by simp at hj; omega) (by omega)
    intro c
    have h1 := cF_trans this c
    exact g h1
/-- Whether it is there. -/
theorem has_at {l : List Fa} (h : rises l) (q : Fa) : (∃ hk : at_ l q < l.length, l[at_ l q] = q) ↔ q ∈ l := by
  constructor
  · rintro ⟨hk, e⟩; rw [← e]; exact List.getElem_mem _
  · intro hm
    obtain ⟨j, hj, e⟩ := List.getElem_of_mem hm
    have : at_ l q = j := at_of (by omega) (fun x hx => by
      obtain ⟨i, hi, rfl⟩ := List.mem_take_iff_getElem.1 hx
      have := List.pairwise_iff_getElem.1 h i j (by omega) hj (by omega)
      rw [e] at this; exact this) (rises_drop h hj (by rw [e, (cF_zero (x := q) (y := q)).2 rfl]; omega))
    subst this
    exact ⟨hj, e⟩
theorem wrap_u64 {n : Int} (h : 0 ≤ n ∧ n < 18446744073709551616) : IntKind.u64.wrap n = n := by
  unfold IntKind.wrap IntKind.signed IntKind.bits
  simp
  omega
theorem half {n : Nat} : ((n : Int)).fdiv (2 ^ Nat.min 1 IntKind.u64.bits) = ((n / 2 : Nat) : Int) := by
  have : (2 : Int) ^ Nat.min 1 IntKind.u64.bits = 2 := by decide
  rw [this, Int.fdiv_eq_ediv_of_nonneg _ (by omega)]
  omega
section
variable {C : Ctx} {k : List It} {E : Env} {Ps : List PA} {Os : List OA}
theorem go_rp_fa' {x : Fa} {ds : List Value} (h : rp tFa x ds ∈ Ps) (g : ∀ A c, ds = [.int .u32 x.p, .slice A x.a.length c] → Go C k E (sl tU A c x.a :: Ps) Os) : Go C k E Ps Os := fun a w hp ho hf hs hb => by
  obtain ⟨A, c, e, s⟩ := tFa_open (hs.ps _ h)
  exact g A c e a w hp ho hf (hs.addp s) hb
theorem go_nil_sl {α : Type} {T : Ty α} {c : Nat} {xs : List α} (h : sl T none c xs ∈ Ps) (g : xs = [] → Go C k E Ps Os) : Go C k E Ps Os :=
  go_fact (φ := xs = []) _ h (fun _ s => List.eq_nil_of_length_eq_zero (by have := s.1; have := s.2.2.1 rfl; omega)) g
end
theorem bin_yes {l : List Fa} {q : Fa} {i : Nat} (h : rises l) (hi : i < l.length) (hi' : i ≤ l.length) (h1 : ∀ x ∈ l.take i, cF x q < 0) (h2 : ∀ x ∈ l.drop i, ¬ cF x q < 0) :
    Value.tuple #[.int .i64 (at_ l q : Int), .bool (decide (q ∈ l))] = Value.tuple #[.int .i64 (i : Int), .bool (decide (cmpF l[i].p l[i].a q.p q.a = 0))] := by
  have e := at_of hi' h1 h2
  have hb : decide (q ∈ l) = decide (cmpF l[i].p l[i].a q.p q.a = 0) := by
    rw [decide_eq_decide, ← has_at h q]
    constructor
    · rintro ⟨hk, g⟩
      subst e
      exact cmpF_zero.2 g
    · intro g
      subst e
      exact ⟨hi, cmpF_zero.1 g⟩
  rw [e, hb]
theorem bin_no {l : List Fa} {q : Fa} {i : Nat} (h : rises l) (hi : i = l.length) (h1 : ∀ x ∈ l.take i, cF x q < 0) : Value.tuple #[.int .i64 (at_ l q : Int), .bool (decide (q ∈ l))] = Value.tuple #[.int .i64 (i : Int), .bool false] := by
  have e : at_ l q = i := at_of (by omega) h1 (by subst hi; simp)
  have hb : decide (q ∈ l) = false := by
    rw [decide_eq_false_iff_not, ← has_at h q]
    rintro ⟨hk, _⟩
    omega
  rw [e, hb]
/-- A set without a fact; with a fact. -/
def fcut (l : List Fa) (q : Fa) : List Fa := if q ∈ l then l.take (at_ l q) ++ l.drop (at_ l q + 1) else l
def fput (l : List Fa) (q : Fa) : List Fa := if q ∈ l then l else l.take (at_ l q) ++ q :: l.drop (at_ l q)
theorem fcut_yes {l : List Fa} {q : Fa} (h : q ∈ l) : fcut l q = l.take (at_ l q) ++ l.drop (at_ l q + 1) := by unfold fcut; rw [if_pos h]
theorem fcut_no {l : List Fa} {q : Fa} (h : ¬ q ∈ l) : fcut l q = l := by unfold fcut; rw [if_neg h]
theorem fput_yes {l : List Fa} {q : Fa} (h : q ∈ l) : fput l q = l := by unfold fput; rw [if_pos h]
theorem fput_no {l : List Fa} {q : Fa} (h : ¬ q ∈ l) : fput l q = l.take (at_ l q) ++ q :: l.drop (at_ l q) := by unfold fput; rw [if_neg h]
end Go.Proofs.Ytdkfpgdfjnaciaa.SL
