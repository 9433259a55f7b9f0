/- The cache's steps, and the document's cache. -/
import Derived.Test.YtdkfpgdfjnaciaaD1
import Derived.Test.YtdkfpgdfjnaciaaS9
set_option linter.unusedVariables false
set_option linter.unusedSimpArgs false
namespace Go.Proofs.Ytdkfpgdfjnaciaa.SL
structure Sc where
  c : Bool
  k : Bool
  q : Fa
  v : Int
def tSc : Ty Sc := tIso (tPair tBool (tPair tBool (tPair tFa (tInt .u8)))) (fun x => (x.c, x.k, x.q, x.v))
def Sc.ok (x : Sc) : Prop := x.q.ok ∧ 0 ≤ x.v ∧ x.v < 256
def tRe : Ty En := tPair tFa (tInt .u8)
theorem tRe_open {h : Heap} {x : En} {cs : List Value} (r : tRe.rep h x cs) : ∃ A c, cs = [.int .u32 x.1.p, .slice A x.1.a.length c, .int .u8 x.2] ∧ Sl tU h A c x.1.a := by
  obtain ⟨a, b, e, h1, h2⟩ := r
  obtain ⟨A, c, h3, h4⟩ := tFa_open h1
  subst h3; cases h2
  exact ⟨A, c, e, h4⟩
theorem tRe_mk {h : Heap} {x : En} {A : Option Addr} {c : Nat} (s : Sl tU h A c x.1.a) : tRe.rep h x [.int .u32 x.1.p, .slice A x.1.a.length c, .int .u8 x.2] := ⟨_, [_], rfl, tFa_mk s, rfl⟩
theorem tSc_open {h : Heap} {x : Sc} {cs : List Value} (r : tSc.rep h x cs) : ∃ A c, cs = [.bool x.c, .bool x.k, .int .u32 x.q.p, .slice A x.q.a.length c, .int .u8 x.v] ∧ Sl tU h A c x.q.a := by
  obtain ⟨a, b, e, h1, a2, b2, e2, h2, a3, b3, e3, h3, h4⟩ := r
  obtain ⟨A, c, h5, h6⟩ := tFa_open h3
  subst h5; cases h1; cases h2; cases h4
  exact ⟨A, c, by rw [e, e2, e3]; rfl, h6⟩
section
variable {C : Ctx} {k : List It} {E : Env} {Ps : List PA} {Os : List OA}
theorem go_elem_re {A : Option Addr} {c : Nat} {xs : List En} (h : sl tRe A c xs ∈ Ps) (j : Nat) {x : En} (hj : xs[j]? = some x)
    (g : ∀ b o A' c', A = some ⟨b, o, none⟩ → Go C k E (cl b (o + j * 3) [.int .u32 x.1.p, .slice A' x.1.a.length c', .int .u8 x.2] :: sl tU A' c' x.1.a :: Ps) Os) : Go C k E Ps Os :=
  go_elem h j hj fun b o cs e a w hp ho hf hs hb => by
    obtain ⟨A', c', hc, hsl⟩ := tRe_open (hs.ps (rp tRe x cs) (.tail _ (.head _)))
    subst hc
    exact g b o A' c' e a w hp ho hf ⟨hs.inp, hs.ino, hs.dj, forall_cons (hs.ps _ (.head _)) (forall_cons hsl fun p hq => hs.ps p (.tail _ (.tail _ hq))), hs.os⟩ hb
theorem go_elem_sc {A : Option Addr} {c : Nat} {xs : List Sc} (h : sl tSc A c xs ∈ Ps) (j : Nat) {x : Sc} (hj : xs[j]? = some x)
    (g : ∀ b o A' c', A = some ⟨b, o, none⟩ → Go C k E (cl b (o + j * 5) [.bool x.c, .bool x.k, .int .u32 x.q.p, .slice A' x.q.a.length c', .int .u8 x.v] :: sl tU A' c' x.q.a :: Ps) Os) : Go C k E Ps Os :=
  go_elem h j hj fun b o cs e a w hp ho hf hs hb => by
    obtain ⟨A', c', hc, hsl⟩ := tSc_open (hs.ps (rp tSc x cs) (.tail _ (.head _)))
    subst hc
    exact g b o A' c' e a w hp ho hf ⟨hs.inp, hs.ino, hs.dj, forall_cons (hs.ps _ (.head _)) (forall_cons hsl fun p hq => hs.ps p (.tail _ (.tail _ hq))), hs.os⟩ hb
theorem ent_re {x : En} {A : Option Addr} {c : Nat} (h : sl tU A c x.1.a ∈ Ps) : Ent Ps (rp tRe x [.int .u32 x.1.p, .slice A x.1.a.length c, .int .u8 x.2]) := fun hp a => tRe_mk (a _ h)
end
theorem cmpL_zero : ∀ {a b : List Int}, cmpL a b = 0 ↔ a = b
  | [], [] => by simp [cmpL]
  | [], _ :: _ => by simp [cmpL]
  | _ :: _, [] => by simp [cmpL]
  | x :: a, y :: b => by
    simp only [cmpL, List.cons.injEq]
    split
    · simp; omega
    · split
      · simp; omega
      · rw [cmpL_zero]; constructor
        · intro h; exact ⟨by omega, h⟩
        · exact fun h => h.2
theorem cmpF_zero {x q : Fa} : cmpF x.p x.a q.p q.a = 0 ↔ x = q := by
  obtain ⟨p, a⟩ := x
  obtain ⟨p', b⟩ := q
  simp only [Fa.mk.injEq]
  unfold cmpF
  split
  · simp; omega
  · split
    · simp; omega
    · split
      · rename_i h; simp; intro _ e; subst e; omega
      · split
        · rename_i h; simp; intro _ e; subst e; omega
        · rw [cmpL_zero]; constructor
          · intro h; exact ⟨by omega, h⟩
          · exact fun h => h.2
/-- What of the first i entries is not the k-th. -/
def delTo (l : List En) (k : Int) (i : Nat) : List En := if k < 0 ∨ (i : Int) ≤ k then l.take i else l.take k.toNat ++ (l.take i).drop (k.toNat + 1)
theorem delTo_zero (l : List En) (k : Int) : delTo l k 0 = [] := by unfold delTo; split <;> simp; omega
theorem delTo_same {l : List En} {k : Int} {i : Nat} (h : (i : Int) = k) : delTo l k (i + 1) = delTo l k i := by
  unfold delTo
  rw [if_neg (by omega), if_pos (by omega)]
  have : k.toNat = i := by omega
  rw [this, List.drop_of_length_le (by simp; omega), List.append_nil]
theorem delTo_next {l : List En} {k : Int} {i : Nat} (hi : i < l.length) (h : ¬ (i : Int) = k) : delTo l k (i + 1) = delTo l k i ++ [l[i]] := by
  unfold delTo
  by_cases h1 : k < 0 ∨ (i : Int) ≤ k
  · rw [if_pos (by omega), if_pos h1, List.take_succ_eq_append_getElem hi]
  · rw [if_neg (by omega), if_neg h1, List.take_succ_eq_append_getElem hi, List.drop_append_of_le_length (by simp; omega), List.append_assoc]
theorem delTo_all {l : List En} {k : Int} {i : Nat} (h : l.length ≤ i) (hk : k < l.length) : delTo l k i = delAt l k := by
  unfold delTo delAt
  rw [List.take_of_length_le h]
  by_cases h1 : k < 0
  · rw [if_pos (.inl h1), if_pos h1]
  · rw [if_neg (by omega), if_neg h1]
theorem delTo_len (l : List En) (k : Int) (i : Nat) : (delTo l k i).length ≤ l.length := by
  unfold delTo; split <;> simp <;> omega
theorem plc_lt (q : Fa) (l : List En) (h : 0 < l.length) : plc q l < l.length := by
  rcases plc_cases q l with ⟨h1, _⟩ | ⟨k, hk, h1, _⟩ <;> omega
theorem plc_lt' (q : Fa) (l : List En) : plc q l < l.length ∨ plc q l < 0 := by
  rcases plc_cases q l with ⟨h1, _⟩ | ⟨k, hk, h1, _⟩ <;> omega
theorem delTo_end {l : List En} {q : Fa} {i : Nat} (h : l.length ≤ i) : delTo l (plc q l) i = delAt l (plc q l) := by
  rcases plc_lt' q l with h1 | h1
  · exact delTo_all h h1
  · unfold delTo delAt; rw [if_pos (.inl h1), if_pos h1, List.take_of_length_le h]
def fewB (l : List Sc) : Bool := decide (l.length ≤ 200) && l.all fun x => decide (x.q.a.length ≤ 30)
theorem few_no {l : List Sc} (h : ¬ l.length ≤ 200) : fewB l = false := by simp [fewB]; omega
theorem few_bad {l : List Sc} {k : Nat} (hk : k < l.length) (h : ¬ l[k].q.a.length ≤ 30) : fewB l = false := by
  simp only [fewB, Bool.and_eq_false_iff]
  right
  rw [List.all_eq_false]
  exact ⟨l[k], List.getElem_mem _, by simpa using h⟩
theorem few_yes {l : List Sc} (h : l.length ≤ 200) (hz : ∀ x ∈ l, x.q.a.length ≤ 30) : fewB l = true := by
  simp only [fewB, Bool.and_eq_true, List.all_eq_true, decide_eq_true_eq]
  exact ⟨h, hz⟩
theorem few_of {l : List Sc} (h : fewB l = true) : l.length ≤ 200 ∧ ∀ x ∈ l, x.q.a.length ≤ 30 := by
  simpa [fewB] using h
theorem cput_part {R : Int} {l : List En} {q : Fa} {v : Int} (c3 : R < ((delAt l (plc q l) ++ [(q, v)]).length : Int)) {T : Ty En} {h : Heap} {A : Option Addr} {c : Nat}
    (s : Sl T h A c (((delAt l (plc q l) ++ [(q, v)]).drop 1).take ((delAt l (plc q l) ++ [(q, v)]).length - 1))) : Sl T h A c (cput R l q v) := by
  unfold cput; rw [if_pos c3]
  rwa [List.take_of_length_le (by simp)] at s
theorem cput_part_len {R : Int} {l : List En} {q : Fa} {v : Int} (c3 : R < ((delAt l (plc q l) ++ [(q, v)]).length : Int)) : (delAt l (plc q l) ++ [(q, v)]).length - 1 = (cput R l q v).length := by
  unfold cput; rw [if_pos c3, List.length_drop]
def keysApart (l : List En) : Prop := (l.map (·.1)).Nodup
theorem delAt_apart {l : List En} {q : Fa} (h : keysApart l) : keysApart (delAt l (plc q l)) ∧ ∀ x ∈ delAt l (plc q l), ¬ x.1 = q := by
  rcases plc_cases q l with ⟨h1, h2⟩ | ⟨k, hk, h1, h2, _⟩
  · rw [delAt_none (by omega)]
    refine ⟨h, fun x hx e => ?_⟩
    have := List.find?_eq_none.1 h2 x hx
    simp [e] at this
  · rw [delAt_hit h1]
    have hs : l = l.take k ++ l[k] :: l.drop (k + 1) := by rw [← List.drop_eq_getElem_cons hk, List.take_append_drop]
    unfold keysApart at h ⊢
    rw [hs, List.map_append, List.map_cons, List.nodup_append] at h
    obtain ⟨n1, n2, n3⟩ := h
    rw [List.nodup_cons] at n2
    constructor
    · rw [List.map_append, List.nodup_append]
      exact ⟨n1, n2.2, fun a ha b hb => n3 a ha b (.tail _ hb)⟩
    · intro x hx e
      rcases List.mem_append.1 hx with hx | hx
      · exact n3 x.1 (List.mem_map_of_mem hx) l[k].1 (.head _) (by rw [e, h2])
      · refine n2.1 ?_
        rw [h2, ← e]
        exact List.mem_map_of_mem hx
theorem cput_apart {R : Int} {l : List En} {q : Fa} {v : Int} (h : keysApart l) : keysApart (cput R l q v) := by
  obtain ⟨h1, h2⟩ := delAt_apart (q := q) h
  have key : keysApart (delAt l (plc q l) ++ [(q, v)]) := by
    unfold keysApart
    rw [List.map_append, List.nodup_append]
    refine ⟨h1, by simp, fun a ha b hb => ?_⟩
    obtain ⟨x, hx, rfl⟩ := List.mem_map.1 ha
    simp at hb
    subst hb
    exact h2 x hx
  unfold cput
  split
  · unfold keysApart at key ⊢
    exact key.sublist ((List.drop_sublist _ _).map _)
  · exact key
theorem cget_self : ∀ {l : List En}, keysApart l → ∀ x ∈ l, cget l x.1 = (x.2, true)
  | [], _, _, hx => by cases hx
  | y :: l, h, x, hx => by
    unfold keysApart at h
    rw [List.map_cons, List.nodup_cons] at h
    unfold cget
    rw [List.find?_cons]
    by_cases e : y.1 = x.1
    · rcases List.mem_cons.1 hx with rfl | hx
      · simp
      · exact absurd (List.mem_map_of_mem (f := fun z : En => z.1) hx) (by rw [← e]; exact h.1)
    · rcases List.mem_cons.1 hx with rfl | hx
      · exact absurd rfl e
      · have := cget_self h.2 x hx
        unfold cget at this
        simpa [e] using this
theorem keysApart_nil : keysApart [] := by simp [keysApart]
theorem Sl_nil {α : Type} (T : Ty α) (h : Heap) : Sl T h none 0 [] := ⟨by simp, by simp [maxLen], fun _ => rfl, fun j x hj => by simp at hj⟩
theorem cput_every {φ : Fa → Prop} {room : Int} {l : List En} {q : Fa} {v : Int} (hl : ∀ x ∈ l, φ x.1) (hq : φ q) : ∀ x ∈ cput room l q v, φ x.1 := by
  intro x hx
  unfold cput at hx
  have key : ∀ x ∈ delAt l (plc q l) ++ [(q, v)], φ x.1 := fun x hx => by
    rcases List.mem_append.1 hx with h | h
    · exact hl x (delAt_mem h)
    · simp at h; subst h; exact hq
  split at hx
  · exact key x (List.mem_of_mem_drop hx)
  · exact key x hx
end Go.Proofs.Ytdkfpgdfjnaciaa.SL
