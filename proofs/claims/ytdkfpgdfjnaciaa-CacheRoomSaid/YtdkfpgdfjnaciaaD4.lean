/- Facts of few kinds, put one behind the other. -/
import Derived.Test.YtdkfpgdfjnaciaaD3
set_option linter.unusedVariables false
set_option linter.unusedSimpArgs false
namespace Go.Proofs.Ytdkfpgdfjnaciaa.SL
def kq (x : Int) : Fa := ⟨x % 90, [1]⟩
def eb (x : Int) : En := (kq x, x % 3)
def PRr (l : List Int) (k : Nat) : List En := (l.take k).reverse.map eb
def DRr (l : List Int) (k : Nat) : List En := (l.drop k).reverse.map eb
theorem kq_ok (x : Int) : (kq x).ok := ⟨by show 0 ≤ x % 90 ∧ x % 90 < _; omega, fun y hy => by simp [kq] at hy; omega⟩
theorem kq_inj {x y : Int} : kq x = kq y ↔ x % 90 = y % 90 := by simp [kq]
theorem PR_zero (l : List Int) : PRr l 0 = [] := by simp [PRr]
theorem PR_next {l : List Int} {k : Nat} (hk : k < l.length) : PRr l (k + 1) = (kq l[k], l[k] % 3) :: PRr l k := by
  unfold PRr
  rw [List.take_succ_eq_append_getElem hk, List.reverse_append]
  rfl
theorem PR_all (l : List Int) : PRr l l.length = DRr l 0 := by simp [PRr, DRr]
theorem DR_end (l : List Int) : DRr l l.length = [] := by simp [DRr]
theorem DR_step {l : List Int} {j : Nat} (hj : j < l.length) : DRr l j = DRr l (j + 1) ++ [eb l[j]] := by
  unfold DRr
  rw [List.drop_eq_getElem_cons hj, List.reverse_cons, List.map_append]
  rfl
theorem DR_all {l : List Int} {j : Nat} (hj : j < l.length) : DRr l 0 = DRr l (j + 1) ++ [eb l[j]] ++ PRr l j := by
  rw [← DR_step hj]
  unfold DRr PRr
  rw [← List.map_append, ← List.reverse_append, List.take_append_drop, List.drop_zero]
theorem PR_ok (l : List Int) (k : Nat) : ∀ y ∈ PRr l k, y.1.ok := fun y hy => by
  obtain ⟨x, _, rfl⟩ := List.mem_map.1 hy
  exact kq_ok x
theorem DR_ok (l : List Int) (k : Nat) : ∀ y ∈ DRr l k, y.1.ok := fun y hy => by
  obtain ⟨x, _, rfl⟩ := List.mem_map.1 hy
  exact kq_ok x
theorem recent_keys : ∀ {P : List En} {q : Fa}, q ∈ (recent P).map (·.1) ↔ q ∈ P.map (·.1)
  | [], q => by simp [recent]
  | x :: P, q => by
    unfold recent
    rw [List.map_cons, List.map_cons, List.mem_cons, List.mem_cons, ← recent_keys (P := P)]
    constructor
    · rintro (h | h)
      · exact .inl h
      · obtain ⟨y, hy, e⟩ := List.mem_map.1 h
        exact .inr (List.mem_map.2 ⟨y, (List.mem_filter.1 hy).1, e⟩)
    · rintro (h | h)
      · exact .inl h
      · by_cases e : q = x.1
        · exact .inl e
        · obtain ⟨y, hy, e2⟩ := List.mem_map.1 h
          exact .inr (List.mem_map.2 ⟨y, List.mem_filter.2 ⟨hy, by simp [e2, e]⟩, e2⟩)
def ks (l : List Int) (j : Nat) : List Int := (l.drop (j + 1)).map (· % 90)
theorem ks_len (l : List Int) (j : Nat) : (ks l j).length = l.length - (j + 1) := by simp [ks]
theorem ks_get {l : List Int} {j t : Nat} (h : t < (ks l j).length) (h' : j + 1 + t < l.length) : (ks l j)[t] = l[j + 1 + t] % 90 := by simp [ks]
theorem again_iff {l : List Int} {j : Nat} (hj : j < l.length) : (eb l[j]).1 ∈ (recent (DRr l (j + 1))).map (·.1) ↔ l[j] % 90 ∈ ks l j := by
  rw [recent_keys]
  unfold DRr ks
  simp only [List.map_map, List.mem_map, List.mem_reverse]
  constructor
  · rintro ⟨x, hx, e⟩
    exact ⟨x, hx, kq_inj.1 e⟩
  · rintro ⟨x, hx, e⟩
    exact ⟨x, hx, kq_inj.2 e⟩
theorem far_same {l : List Int} {j : Nat} (hj : j < l.length) (h : l[j] % 90 ∈ ks l j) : recent (DRr l j) = recent (DRr l (j + 1)) := by
  rw [DR_step hj, recent_snoc, if_pos ((again_iff hj).2 h)]
theorem far_next {l : List Int} {j : Nat} (hj : j < l.length) (h : ¬ l[j] % 90 ∈ ks l j) : recent (DRr l j) = recent (DRr l (j + 1)) ++ [eb l[j]] := by
  rw [DR_step hj, recent_snoc, if_neg (fun q => h ((again_iff hj).1 q))]
theorem room_get {l : List Int} {j n : Nat} (hj : j < l.length) (h : ¬ l[j] % 90 ∈ ks l j) : cget (held n (DRr l 0)) (kq l[j]) = (if (recent (DRr l (j + 1))).length < n then l[j] % 3 else 0, decide ((recent (DRr l (j + 1))).length < n)) := by
  obtain ⟨t, ht⟩ := recent_prefix (DRr l (j + 1) ++ [eb l[j]]) (PRr l j)
  rw [← DR_all hj, ← DR_step hj, far_next hj h, List.append_assoc] at ht
  exact cget_held ht
theorem far_len (l : List Int) (j : Nat) : (recent (DRr l j)).length ≤ l.length - j := by
  have : ∀ P : List En, (recent P).length ≤ P.length := fun P => by
    induction P with
    | nil => simp [recent]
    | cons x P ih =>
      unfold recent
      simp only [List.length_cons]
      have := List.length_filter_le (fun y : En => decide (¬ y.1 = x.1)) (recent P)
      omega
  have := this (DRr l j)
  simpa [DRr] using this
theorem mem_stepI {q : Int} {xs : List Int} {j : Nat} (hj : j < xs.length) {is r : Bool} (h : (is = decide (q ∈ xs.take j) ∧ is = true ∧ r = true) ∨ (is = decide (q ∈ xs.take j) ∧ is = false ∧ r = decide (xs[j] = q))) : r = decide (q ∈ xs.take (j + 1)) := by
  have e : (q ∈ xs.take (j + 1)) ↔ (q ∈ xs.take j ∨ q = xs[j]) := by
    rw [List.take_succ_eq_append_getElem hj, List.mem_append, List.mem_singleton]
  rcases h with ⟨h1, h2, h3⟩ | ⟨h1, h2, h3⟩
  · rw [h2] at h1
    rw [h3, eq_comm, decide_eq_true_eq]
    exact e.2 (.inl (of_decide_eq_true h1.symm))
  · rw [h2] at h1
    rw [h3, decide_eq_decide, e]
    have := of_decide_eq_false h1.symm
    exact ⟨fun q => .inr q.symm, fun q => by rcases q with q | q; · exact absurd q this
                                             · exact q.symm⟩
theorem wrap_u32 {n : Int} (h : 0 ≤ n ∧ n < 4294967296) : IntKind.u32.wrap n = n := by
  unfold IntKind.wrap IntKind.signed IntKind.bits
  simp
  omega
end Go.Proofs.Ytdkfpgdfjnaciaa.SL
