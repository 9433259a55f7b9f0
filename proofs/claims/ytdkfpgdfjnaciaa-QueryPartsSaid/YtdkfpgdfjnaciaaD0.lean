/- The program's data: facts, terms, atoms, and their order. -/
import Derived.Test.YtdkfpgdfjnaciaaS7
set_option linter.unusedVariables false
namespace Go.Proofs.Ytdkfpgdfjnaciaa.SL
structure Fa where
  p : Int
  a : List Int
  deriving DecidableEq
structure Tm where
  v : Bool
  n : Int
  deriving DecidableEq
structure Am where
  p : Int
  a : List Tm
  deriving DecidableEq
abbrev tU : Ty Int := tInt .u32
def tFa : Ty Fa := tIso (tPair tU (tSl tU)) (fun x => (x.p, x.a))
def tTm : Ty Tm := tIso (tPair tBool tU) (fun x => (x.v, x.n))
def tAm : Ty Am := tIso (tPair tU (tSl tTm)) (fun x => (x.p, x.a))
theorem tFa_open {h : Heap} {x : Fa} {cs : List Value} (r : tFa.rep h x cs) : ∃ A c, cs = [.int .u32 x.p, .slice A x.a.length c] ∧ Sl tU h A c x.a := by
  obtain ⟨a, b, e, h1, A, c, h2, h3⟩ := r
  cases h1; cases h2
  exact ⟨A, c, e, h3⟩
theorem tFa_mk {h : Heap} {x : Fa} {A : Option Addr} {c : Nat} (s : Sl tU h A c x.a) : tFa.rep h x [.int .u32 x.p, .slice A x.a.length c] := ⟨[_], [_], rfl, rfl, A, c, rfl, s⟩
theorem tTm_open {h : Heap} {x : Tm} {cs : List Value} (r : tTm.rep h x cs) : cs = [.bool x.v, .int .u32 x.n] := by
  obtain ⟨a, b, e, h1, h2⟩ := r
  cases h1; cases h2
  exact e
theorem tTm_mk {h : Heap} {x : Tm} : tTm.rep h x [.bool x.v, .int .u32 x.n] := ⟨[_], [_], rfl, rfl, rfl⟩
theorem tAm_open {h : Heap} {x : Am} {cs : List Value} (r : tAm.rep h x cs) : ∃ A c, cs = [.int .u32 x.p, .slice A x.a.length c] ∧ Sl tTm h A c x.a := by
  obtain ⟨a, b, e, h1, A, c, h2, h3⟩ := r
  cases h1; cases h2
  exact ⟨A, c, e, h3⟩
theorem tAm_mk {h : Heap} {x : Am} {A : Option Addr} {c : Nat} (s : Sl tTm h A c x.a) : tAm.rep h x [.int .u32 x.p, .slice A x.a.length c] := ⟨[_], [_], rfl, rfl, A, c, rfl, s⟩
theorem tU_flat : tU.flat := fun _ _ _ _ h => h
theorem tTm_flat : tTm.flat := fun _ _ _ _ h => by rw [tTm_open h]; exact tTm_mk
section
variable {C : Ctx} {k : List It} {E : Env} {Ps : List PA} {Os : List OA}
theorem go_elem_fa {A : Option Addr} {c : Nat} {xs : List Fa} (h : sl tFa A c xs ∈ Ps) (j : Nat) {x : Fa} (hj : xs[j]? = some x)
    (g : ∀ b o A' c', A = some ⟨b, o, none⟩ → Go C k E (cl b (o + j * 2) [.int .u32 x.p, .slice A' x.a.length c'] :: sl tU A' c' x.a :: Ps) Os) : Go C k E Ps Os :=
  go_elem h j hj fun b o cs e a w hp ho hf hs hb => by
    obtain ⟨A', c', hc, hsl⟩ := tFa_open (hs.ps (rp tFa x cs) (.tail _ (.head _)))
    subst hc
    exact g b o A' c' e a w hp ho hf ⟨hs.inp, hs.ino, hs.dj, forall_cons (hs.ps _ (.head _)) (forall_cons hsl fun p hq => hs.ps p (.tail _ (.tail _ hq))), hs.os⟩ hb
theorem go_elem_am {A : Option Addr} {c : Nat} {xs : List Am} (h : sl tAm A c xs ∈ Ps) (j : Nat) {x : Am} (hj : xs[j]? = some x)
    (g : ∀ b o A' c', A = some ⟨b, o, none⟩ → Go C k E (cl b (o + j * 2) [.int .u32 x.p, .slice A' x.a.length c'] :: sl tTm A' c' x.a :: Ps) Os) : Go C k E Ps Os :=
  go_elem h j hj fun b o cs e a w hp ho hf hs hb => by
    obtain ⟨A', c', hc, hsl⟩ := tAm_open (hs.ps (rp tAm x cs) (.tail _ (.head _)))
    subst hc
    exact g b o A' c' e a w hp ho hf ⟨hs.inp, hs.ino, hs.dj, forall_cons (hs.ps _ (.head _)) (forall_cons hsl fun p hq => hs.ps p (.tail _ (.tail _ hq))), hs.os⟩ hb
theorem go_elem_tm {A : Option Addr} {c : Nat} {xs : List Tm} (h : sl tTm A c xs ∈ Ps) (j : Nat) {x : Tm} (hj : xs[j]? = some x)
    (g : ∀ b o, A = some ⟨b, o, none⟩ → Go C k E (cl b (o + j * 2) [.bool x.v, .int .u32 x.n] :: Ps) Os) : Go C k E Ps Os :=
  go_elem h j hj fun b o cs e a w hp ho hf hs hb => by
    have hc := tTm_open (hs.ps (rp tTm x cs) (.tail _ (.head _)))
    subst hc
    exact g b o e a w hp ho hf ⟨hs.inp, hs.ino, hs.dj, forall_cons (hs.ps _ (.head _)) fun p hq => hs.ps p (.tail _ (.tail _ hq)), hs.os⟩ hb
theorem ent_fa {x : Fa} {A : Option Addr} {c : Nat} (h : sl tU A c x.a ∈ Ps) : Ent Ps (rp tFa x [.int .u32 x.p, .slice A x.a.length c]) := fun hp a => tFa_mk (a _ h)
theorem ent_am {x : Am} {A : Option Addr} {c : Nat} (h : sl tTm A c x.a ∈ Ps) : Ent Ps (rp tAm x [.int .u32 x.p, .slice A x.a.length c]) := fun hp a => tAm_mk (a _ h)
theorem ent_tm {x : Tm} : Ent Ps (rp tTm x [.bool x.v, .int .u32 x.n]) := fun hp a => tTm_mk
theorem ent_int {kk : IntKind} {x : Int} : Ent Ps (rp (tInt kk) x [.int kk x]) := fun hp a => rfl
end

/-! ### the order of facts -/
def cmpL : List Int → List Int → Int
  | [], [] => 0
  | [], _ :: _ => -1
  | _ :: _, [] => 1
  | x :: a, y :: b => if x < y then -1 else if y < x then 1 else cmpL a b
def cmpF (p : Int) (a : List Int) (q : Int) (b : List Int) : Int :=
  if p < q then -1 else if q < p then 1 else if a.length < b.length then -1 else if b.length < a.length then 1 else cmpL a b
theorem cmpL_at : ∀ {a b : List Int} (k : Nat) (h1 : k < a.length) (h2 : k < b.length), a.take k = b.take k → (a[k] < b[k] → cmpL a b = -1) ∧ (b[k] < a[k] → cmpL a b = 1)
  | [], _, _, h1, _, _ => by simp at h1
  | _ :: _, [], _, _, h2, _ => by simp at h2
  | x :: a, y :: b, 0, _, _, _ => by
    simp only [List.getElem_cons_zero, cmpL]
    exact ⟨fun h => by rw [if_pos h], fun h => by rw [if_neg (by omega), if_pos h]⟩
  | x :: a, y :: b, k + 1, h1, h2, e => by
    simp only [List.take_succ_cons, List.cons.injEq] at e
    obtain ⟨rfl, e⟩ := e
    have := cmpL_at k (by simpa using h1) (by simpa using h2) e
    simp only [List.getElem_cons_succ, cmpL]
    rw [if_neg (by omega), if_neg (by omega)]
    exact this
theorem cmpL_pre : ∀ {a b : List Int}, b.take a.length = a → cmpL a b = if a.length < b.length then -1 else 0
  | [], [], _ => rfl
  | [], _ :: _, _ => by simp [cmpL]
  | _ :: _, [], e => by simp at e
  | x :: a, y :: b, e => by
    simp only [List.length_cons, List.take_succ_cons, List.cons.injEq] at e
    obtain ⟨rfl, e⟩ := e
    simp only [cmpL]
    rw [if_neg (by omega), if_neg (by omega), cmpL_pre e]
    simp
theorem cmpL_post : ∀ {a b : List Int}, a.take b.length = b → b.length < a.length → cmpL a b = 1
  | [], _, _, h => by simp at h
  | _ :: _, [], _, _ => rfl
  | x :: a, y :: b, e, h => by
    simp only [List.length_cons, List.take_succ_cons, List.cons.injEq] at e
    obtain ⟨rfl, e⟩ := e
    simp only [cmpL]
    rw [if_neg (by omega), if_neg (by omega)]
    exact cmpL_post e (by simpa using h)
theorem take_next {α : Type} {a b : List α} {k : Nat} (h1 : k < a.length) (h2 : k < b.length) (e : a.take k = b.take k) (h : a[k] = b[k]) : a.take (k + 1) = b.take (k + 1) := by
  rw [List.take_succ_eq_append_getElem h1, List.take_succ_eq_append_getElem h2, e, h]
theorem cmp_r0 {a b : List Int} {k : Nat} (hz : a.take k = b.take k) (h1 : b.length ≤ k) (h2 : k ≤ b.length) (h3 : k < a.length) : (1 : Int) = cmpL a b := by
  have e : k = b.length := by omega
  subst e
  rw [List.take_length] at hz
  exact (cmpL_post hz h3).symm
theorem cmp_r1 {a b : List Int} {k : Nat} (hz : a.take k = b.take k) (h1 : k < a.length) (h2 : k < b.length) (h : ¬ (if a[k] < b[k] then (-1 : Int) else if b[k] < a[k] then 1 else 0) = 0) :
    (if a[k] < b[k] then (-1 : Int) else if b[k] < a[k] then 1 else 0) = cmpL a b := by
  have := cmpL_at k h1 h2 hz
  split
  · rename_i q; exact (this.1 q).symm
  · split
    · rename_i q; exact (this.2 q).symm
    · rename_i q1 q2; rw [if_neg q1, if_neg q2] at h; exact absurd rfl h
theorem cmp_eq {x y : Int} (h : (if x < y then (-1 : Int) else if y < x then 1 else 0) = 0) : x = y := by
  split at h
  · cases h
  · split at h
    · cases h
    · omega
theorem cmp_r2 {a b : List Int} {k : Nat} (hz : a.take k = b.take k) (h1 : a.length ≤ k) (h2 : k ≤ b.length) (h0 : k ≤ a.length) : cmpL a b = if a.length < b.length then -1 else 0 := by
  have e : k = a.length := by omega
  subst e
  rw [List.take_length] at hz
  exact cmpL_pre hz.symm
theorem or3 (x y z : Int) : ([x, y, z].find? (· ≠ 0)).getD 0 = if x ≠ 0 then x else if y ≠ 0 then y else z := by
  by_cases hx : x = 0
  · by_cases hy : y = 0
    · by_cases hz : z = 0 <;> simp [hx, hy, hz]
    · simp [hx, hy]
  · simp [hx]
theorem cmp_all (p q : Int) (a b : List Int) : ([if p < q then (-1 : Int) else if q < p then 1 else 0, if (a.length : Int) < (b.length : Int) then (-1 : Int) else if (b.length : Int) < (a.length : Int) then 1 else 0, cmpL a b].find? (· ≠ 0)).getD 0 = cmpF p a q b := by
  rw [or3]
  unfold cmpF
  by_cases h1 : p < q
  · simp [h1]
  · by_cases h2 : q < p
    · simp [h1, h2]
    · by_cases h3 : a.length < b.length
      · simp [h1, h2, h3]
      · by_cases h4 : b.length < a.length
        · simp [h1, h2, h3, h4]
        · simp [h1, h2, h3, h4]
theorem cmpF_lt {p q : Int} {a b : List Int} (h : p < q ∨ (p = q ∧ a.length < b.length)) : cmpF p a q b = -1 := by
  unfold cmpF
  rcases h with h | ⟨h1, h2⟩
  · rw [if_pos h]
  · rw [if_neg (by omega), if_neg (by omega), if_pos h2]
theorem cmpF_gt {p q : Int} {a b : List Int} (h : ¬ (p < q ∨ (p = q ∧ a.length < b.length))) (g : q < p ∨ b.length < a.length) : cmpF p a q b = 1 := by
  unfold cmpF
  rw [if_neg (by omega)]
  by_cases h1 : q < p
  · rw [if_pos h1]
  · rw [if_neg h1, if_neg (by omega), if_pos (by omega)]
theorem cmpF_eq {p q : Int} {a b : List Int} (h : ¬ (p < q ∨ (p = q ∧ a.length < b.length))) (g : ¬ (q < p ∨ b.length < a.length)) : cmpF p a q b = cmpL a b ∧ p = q ∧ a.length = b.length := by
  unfold cmpF
  rw [if_neg (by omega), if_neg (by omega), if_neg (by omega), if_neg (by omega)]
  exact ⟨rfl, by omega, by omega⟩
theorem cmpL_all {a b : List Int} {k : Nat} (hl : a.length = b.length) (hk : a.length ≤ k) (hz : a.take k = b.take k) : cmpL a b = 0 := by
  rw [List.take_of_length_le hk, List.take_of_length_le (by omega)] at hz
  subst hz
  rw [cmpL_pre (by simp)]
  simp
theorem or_hit {xs : List Int} {k : Nat} (hk : k < xs.length) (hz : (xs.take k).find? (· ≠ 0) = none) (h : xs[k] ≠ 0) : (xs.find? (· ≠ 0)).getD 0 = xs[k] := by
  have e : xs.find? (· ≠ 0) = (xs.take k ++ xs.drop k).find? (· ≠ 0) := by rw [List.take_append_drop]
  rw [e, List.find?_append, hz, List.drop_eq_getElem_cons hk, List.find?_cons_of_pos (by simpa using h)]
  rfl
theorem or_next {xs : List Int} {k : Nat} (hk : k < xs.length) (hz : (xs.take k).find? (· ≠ 0) = none) (h : xs[k] = 0) : (xs.take (k + 1)).find? (· ≠ 0) = none := by
  rw [List.take_succ_eq_append_getElem hk, List.find?_append, hz]
  simp [h]
theorem or_none {xs : List Int} {k : Nat} (hk : xs.length ≤ k) (hz : (xs.take k).find? (· ≠ 0) = none) : (xs.find? (· ≠ 0)).getD 0 = 0 := by
  rw [List.take_of_length_le hk] at hz
  rw [hz]; rfl
def orI : List Int → Int := fun xs => (xs.find? (· ≠ 0)).getD 0
end Go.Proofs.Ytdkfpgdfjnaciaa.SL
