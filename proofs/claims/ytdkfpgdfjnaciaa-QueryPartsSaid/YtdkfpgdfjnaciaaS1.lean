/- Regions: in the text's order, or in whatever order they are drawn, one plan says all. -/
import Derived.Test.YtdkfpgdfjnaciaaS0
set_option linter.unusedVariables false
set_option linter.unusedSimpArgs false
namespace Go.Proofs.Ytdkfpgdfjnaciaa.SL
section
variable {P : Program} {ops : Array Oper} {Q : Exit → Act → World → Prop} {S : World → Prop}

def textSteps : List Oper → Pl
  | [] => .nil
  | o :: r => .one 0 false o (textSteps r)
theorem rwp_text : ∀ (l : List Oper) (a : Act) (w : World), rwp P ops Q S (textSteps l) a w → wpList P ops Q l a w
  | [], a, w, h => h
  | o :: r, a, w, h => by
    simp only [textSteps, rwp] at h
    simp only [wpList]
    split at h
    · rename_i hw
      rw [if_pos hw]
      exact .inl (Oper.wp_mono (fun a' w' q => rwp_text r a' w' q.2) h)
    · rename_i hw
      rw [if_neg hw]
      exact rwp_text r _ _ h.2

/-- 'i' must have come up ahead of 'j'. -/
inductive Anc (ops : Array Oper) : Nat → Nat → Prop where
  | one {j : Nat} {o : Oper} {e : Edge} : ops[j]? = some o → e ∈ o.after → Region.binds .any e = true → Anc ops j e.on
  | more {j i : Nat} {o : Oper} {e : Edge} : ops[j]? = some o → e ∈ o.after → Region.binds .any e = true → Anc ops e.on i → Anc ops j i
def Closed (ops : Array Oper) (listed : Array Bool) : Prop := ∀ j o, listed.getD j false = true → ops[j]? = some o → ∀ e ∈ o.after, Region.binds .any e = true → listed.getD e.on false = true
theorem Anc.listed {listed : Array Bool} (hc : Closed ops listed) {j i : Nat} (h : Anc ops j i) : listed.getD j false = true → listed.getD i false = true := by
  induction h with
  | one ho he hb => exact fun hj => hc _ _ hj ho _ he hb
  | more ho he hb _ ih => exact fun hj => ih (hc _ _ hj ho _ he hb)
theorem Anc.ready {listed : Array Bool} (hc : Closed ops listed) {j i : Nat} (h : Anc ops j i) (hr : j ∈ Region.ready .any ops listed) : listed.getD i false = true := by
  obtain ⟨_, o, ho, hall⟩ := mem_ready.1 hr
  cases h with
  | one ho' he hb => rw [ho] at ho'; cases ho'; exact hall _ he hb
  | more ho' he hb h' => rw [ho] at ho'; cases ho'; exact h'.listed hc (hall _ he hb)
theorem Closed.set {listed : Array Bool} (hc : Closed ops listed) {i : Nat} (hr : i ∈ Region.ready .any ops listed) : Closed ops (listed.setIfInBounds i true) := by
  intro j o hj ho e he hb
  by_cases hji : j = i
  · subst hji
    obtain ⟨_, o', ho', hall⟩ := mem_ready.1 hr
    rw [ho] at ho'; cases ho'
    exact getD_set_true (hall e he hb)
  · rw [getD_set_ne false (Ne.symm hji)] at hj
    exact getD_set_true (hc j o hj ho e he hb)
theorem Closed.none (n : Nat) : Closed ops (Array.replicate n false) := by
  intro j o hj
  simp [Array.getD_eq_getD_getElem?, Array.getElem?_replicate] at hj
  split at hj <;> simp at hj

theorem before_bits : ∀ (l : List Oper) (acc : Array Nat) (pre : List Oper), acc.size = pre.length →
    (pre ++ l = ops.toList) → (∀ j i, (acc.getD j 0).testBit i = true → Anc ops j i) →
    ∀ j i, ((l.foldl (init := acc) fun acc o => acc.push (o.after.foldl (fun s e => if Region.binds .any e then s ||| 2 ^ e.on ||| acc.getD e.on 0 else s) 0)).getD j 0).testBit i = true → Anc ops j i
  | [], acc, pre, _, _, h, j, i, hb => h j i hb
  | o :: l, acc, pre, hs, hp, h, j, i, hb => by
    simp only [List.foldl_cons] at hb
    refine before_bits l _ (pre ++ [o]) (by simp [hs]) (by simpa using hp) ?_ j i hb
    intro j i hb
    have ho : ops[pre.length]? = some o := by
      rw [← Array.getElem?_toList, ← hp]; simp
    by_cases hj : j = acc.size
    · subst hj
      simp only [Array.getD_eq_getD_getElem?, Array.getElem?_push_size, Option.getD_some] at hb
      rw [hs]
      rw [← Array.foldl_toList] at hb
      have key : ∀ (es : List Edge) (s : Nat), (∀ e ∈ es, e ∈ o.after) → (s.testBit i = true → Anc ops pre.length i) →
          (es.foldl (fun s e => if Region.binds .any e then s ||| 2 ^ e.on ||| (acc[e.on]?).getD 0 else s) s).testBit i = true → Anc ops pre.length i := by
        intro es
        induction es with
        | nil => exact fun s _ hs' hb' => hs' hb'
        | cons e es ih =>
          intro s hm hs' hb'
          simp only [List.foldl_cons] at hb'
          refine ih _ (fun e' he' => hm e' (.tail _ he')) ?_ hb'
          intro hb2
          split at hb2
          · rename_i hbd
            rw [Nat.testBit_or, Nat.testBit_or, Bool.or_eq_true, Bool.or_eq_true] at hb2
            rcases hb2 with (hb2 | hb2) | hb2
            · exact hs' hb2
            · rw [Nat.testBit_two_pow] at hb2
              have : e.on = i := by simpa using hb2
              subst this
              exact .one ho (hm e (.head _)) hbd
            · exact .more ho (hm e (.head _)) hbd (h e.on i (by simpa [Array.getD_eq_getD_getElem?] using hb2))
          · exact hs' hb2
      exact key o.after.toList 0 (fun e he => by simpa using he) (by simp) hb
    · refine h j i ?_
      simp only [Array.getD_eq_getD_getElem?] at hb ⊢
      rw [Array.getElem?_push] at hb
      rw [if_neg hj] at hb
      exact hb
theorem before_anc {j i : Nat} (h : ((Region.before ops).getD j 0).testBit i = true) : Anc ops j i := by
  unfold Region.before at h
  rw [← Array.foldl_toList] at h
  exact before_bits (ops := ops) ops.toList #[] [] rfl rfl (by simp) j i h

/-- 'S' is wanted behind 'j' if a load may come up behind it or ahead of it. -/
def flagOf (bs : Array Nat) (loads : List Nat) (j : Nat) : Bool := loads.any fun i => i != j && !(bs.getD j 0).testBit i && !(bs.getD i 0).testBit j

def wpF (P : Program) (ops : Array Oper) (Q : Exit → Act → World → Prop) (S : World → Prop) (fl : Nat → Bool) : Nat → Array Bool → Act → World → Prop
  | 0, listed, a, w => Region.ready .any ops listed = [] ∧ Q .normal a w
  | fuel + 1, listed, a, w =>
    (Region.ready .any ops listed = [] → Q .normal a w) ∧
    ∀ i ∈ Region.ready .any ops listed, wpOp P ops Q i (fun a' w' => (fl i = true → S w → S w') ∧ wpF P ops Q S fl fuel (listed.setIfInBounds i true) a' w') a w
theorem wpAny_of_F {fl : Nat → Bool} : ∀ (fuel : Nat) (listed : Array Bool) (a : Act) (w : World), wpF P ops Q S fl fuel listed a w → wpAny P .any ops Q fuel listed a w
  | 0, _, _, _, h => h
  | fuel + 1, _, _, _, h => ⟨h.1, fun i hi => wpOp_mono (fun a' w' h' => wpAny_of_F fuel _ a' w' h'.2) (h.2 i hi)⟩

theorem wpF_pure {fl : Nat → Bool} {i : Nat} {oi : Oper} {v : Value} (hi : ops[i]? = some oi) (hsel : ∀ (j : Nat) (o : Oper) cs b, ops[j]? = some o → o.op ≠ .select cs b)
    (hQ : ∀ c a w, Q (.panic c) (a.put oi.dst v) w → Q (.panic c) a w) :
    ∀ (fuel : Nat) (listed : Array Bool) (a : Act) (w : World),
      (∀ j oj, ops[j]? = some oj → j ≠ i → listed.getD j true = false → (∀ e ∈ oj.after, Region.binds .any e = true → e.on ≠ i) → oi.apart ops oj = true) →
      i ∈ Region.ready .any ops listed → Yields P ops oi v a →
      wpF P ops Q S fl fuel (listed.setIfInBounds i true) (a.put oi.dst v) w → wpF P ops Q S fl (fuel + 1) listed a w := by
  intro fuel
  induction fuel with
  | zero =>
    intro listed a w _ hr hy H
    refine ⟨fun h => (by rw [h] at hr; cases hr), fun j hj => ?_⟩
    by_cases hji : j = i
    · subst hji; exact hy.wpOp hi ⟨fun _ h => h, H⟩
    · have := ready_mono hj hji
      rw [H.1] at this
      cases this
  | succ fuel ih =>
    intro listed a w hfree hr hy H
    refine ⟨fun h => (by rw [h] at hr; cases hr), fun j hj => ?_⟩
    by_cases hji : j = i
    · subst hji; exact hy.wpOp hi ⟨fun _ h => h, H⟩
    · have h1 := H.2 j (ready_mono hj hji)
      obtain ⟨hjun, oj, hoj, hall⟩ := mem_ready.1 hj
      have hnot : ∀ e ∈ oj.after, Region.binds .any e = true → e.on ≠ i := fun e he hb heq => by
        have h1 := hall e he hb
        have h0 := (mem_ready.1 hr).1
        rw [heq] at h1
        rcases Nat.lt_or_ge i listed.size with h' | h'
        · simp [h'] at h0 h1; rw [h0] at h1; cases h1
        · simp [Array.getElem?_eq_none h'] at h1
      have h2 := wpOp_put hoj (hfree j oj hoj hji hjun hnot) (fun cs b => hsel i oi cs b hi) (fun cs b => hsel j oj cs b hoj) hQ hy h1
      have hfree' : ∀ k ok, ops[k]? = some ok → k ≠ i → (listed.setIfInBounds j true).getD k true = false →
          (∀ e ∈ ok.after, Region.binds .any e = true → e.on ≠ i) → oi.apart ops ok = true := fun k ok hk hki hun hno => by
        refine hfree k ok hk hki ?_ hno
        by_cases hjk : j = k
        · subst hjk; exact hjun
        · rw [getD_set_ne true hjk] at hun; exact hun
      refine wpOp_mono (fun a' w' h3 => ⟨h3.2.1, ih (listed.setIfInBounds j true) a' w' hfree' (ready_mono hr (Ne.symm hji)) h3.1 ?_⟩) h2
      rw [Array.setIfInBounds_comm _ _ hji]
      exact h3.2.2
theorem wpF_load {fl : Nat → Bool} {i : Nat} {oi : Oper} {v : Value} (hi : ops[i]? = some oi) (hsel : ∀ (j : Nat) (o : Oper) cs b, ops[j]? = some o → o.op ≠ .select cs b)
    (hQ : ∀ c a w, Q (.panic c) (a.put oi.dst v) w → Q (.panic c) a w) (hfl : ∀ j, j ≠ i → fl j = false → Anc ops j i ∨ Anc ops i j) :
    ∀ (fuel : Nat) (listed : Array Bool) (a : Act) (w : World), Closed ops listed →
      (∀ j oj, ops[j]? = some oj → j ≠ i → listed.getD j true = false → (∀ e ∈ oj.after, Region.binds .any e = true → e.on ≠ i) → oi.apart ops oj = true) →
      i ∈ Region.ready .any ops listed → YieldsIf P ops S oi v a → S w →
      wpF P ops Q S fl fuel (listed.setIfInBounds i true) (a.put oi.dst v) w → wpF P ops Q S fl (fuel + 1) listed a w := by
  intro fuel
  induction fuel with
  | zero =>
    intro listed a w hcl _ hr hy hS H
    refine ⟨fun h => (by rw [h] at hr; cases hr), fun j hj => ?_⟩
    by_cases hji : j = i
    · subst hji; exact hy.wpOp hi hS ⟨fun _ h => h, H⟩
    · have := ready_mono hj hji
      rw [H.1] at this
      cases this
  | succ fuel ih =>
    intro listed a w hcl hfree hr hy hS H
    refine ⟨fun h => (by rw [h] at hr; cases hr), fun j hj => ?_⟩
    by_cases hji : j = i
    · subst hji; exact hy.wpOp hi hS ⟨fun _ h => h, H⟩
    · have h1 := H.2 j (ready_mono hj hji)
      obtain ⟨hjun, oj, hoj, hall⟩ := mem_ready.1 hj
      have unl : ∀ x, listed.getD x true = false → listed.getD x false = true → False := fun x e1 e2 => by
        rcases Nat.lt_or_ge x listed.size with h' | h'
        · simp [Array.getD_eq_getD_getElem?, h'] at e1 e2; rw [e1] at e2; cases e2
        · simp [Array.getD_eq_getD_getElem?, Array.getElem?_eq_none h'] at e2
      have hnot : ∀ e ∈ oj.after, Region.binds .any e = true → e.on ≠ i := fun e he hb heq => unl i (mem_ready.1 hr).1 (heq ▸ hall e he hb)
      have hflj : fl j = true := by
        cases hx : fl j with
        | true => rfl
        | false =>
          rcases hfl j hji hx with hA | hA
          · exact (unl i (mem_ready.1 hr).1 (hA.ready hcl hj)).elim
          · exact (unl j hjun (hA.ready hcl hr)).elim
      have h2 := wpOp_putIf hoj (hfree j oj hoj hji hjun hnot) (fun cs b => hsel i oi cs b hi) (fun cs b => hsel j oj cs b hoj) hQ hy h1
      have hfree' : ∀ k ok, ops[k]? = some ok → k ≠ i → (listed.setIfInBounds j true).getD k true = false →
          (∀ e ∈ ok.after, Region.binds .any e = true → e.on ≠ i) → oi.apart ops ok = true := fun k ok hk hki hun hno => by
        refine hfree k ok hk hki ?_ hno
        by_cases hjk : j = k
        · subst hjk; exact hjun
        · rw [getD_set_ne true hjk] at hun; exact hun
      refine wpOp_mono (fun a' w' h3 => ⟨h3.2.1, ih (listed.setIfInBounds j true) a' w' (hcl.set hj) hfree' (ready_mono hr (Ne.symm hji)) h3.1 (h3.2.1 hflj hS) ?_⟩) h2
      rw [Array.setIfInBounds_comm _ _ hji]
      exact h3.2.2

/-! ### a plan: what comes up next; 1: it hangs on nothing in memory, 2: on what S holds, 0: it is the one that comes up -/
inductive PT where
  | nil
  | one (d i : Nat) (r : PT)
  | two (a b : PT)
def pre : List (Nat × Nat) → PT → PT
  | [], t => t
  | (d, i) :: r, t => .one d i (pre r t)
def stepsOf (ops : Array Oper) (bs : Array Nat) (loads : List Nat) : PT → Pl
  | .nil => .nil
  | .one d i r => .one d (cond (Nat.beq d 0) (flagOf bs loads i) false) (ops.getD i default) (stepsOf ops bs loads r)
  | .two a b => .two (stepsOf ops bs loads a) (stepsOf ops bs loads b)
def heads : PT → List Nat
  | .one 0 i _ => [i]
  | .two a b => heads a ++ heads b
  | _ => []
/-- 'alt': what comes up is one of several. -/
def planOK (ops : Array Oper) (bs : Array Nat) (loads : List Nat) : Bool → Array Bool → PT → Bool
  | false, listed, .nil => (Region.ready .any ops listed).isEmpty
  | true, _, .nil => false
  | alt, listed, .one 0 i r => (alt || (Region.ready .any ops listed == [i])) && planOK ops bs loads false (listed.setIfInBounds i true) r
  | false, listed, .one 1 i r => (Region.ready .any ops listed).contains i && Region.free .any ops listed i && planOK ops bs loads false (listed.setIfInBounds i true) r
  | false, listed, .one (_ + 2) i r => (Region.ready .any ops listed).contains i && Region.free .any ops listed i && loads.contains i && planOK ops bs loads false (listed.setIfInBounds i true) r
  | true, _, .one (_ + 1) _ _ => false
  | alt, listed, .two a b => (alt || (!(Region.ready .any ops listed).isEmpty && (Region.ready .any ops listed).all fun i => (heads a ++ heads b).contains i)) && planOK ops bs loads true listed a && planOK ops bs loads true listed b
def deep : Nat → PT → Bool
  | 0, .nil => true
  | n + 1, .one _ _ r => deep n r
  | n, .two a b => deep n a && deep n b
  | _, _ => false
def planFits (ops : Array Oper) (loads : List Nat) (plan : PT) : Bool :=
  Region.noSelect ops && deep ops.size plan && planOK ops (Region.before ops) loads false (Array.replicate ops.size false) plan
theorem flag_anc {loads : List Nat} {i : Nat} (hi : loads.contains i = true) (j : Nat) (hj : j ≠ i) (h : flagOf (Region.before ops) loads j = false) : Anc ops j i ∨ Anc ops i j := by
  have := (List.any_eq_false.1 h) i (by simpa using hi)
  by_cases hb : ((Region.before ops).getD j 0).testBit i = true
  · exact .inl (before_anc hb)
  · by_cases hc : ((Region.before ops).getD i 0).testBit j = true
    · exact .inr (before_anc hc)
    · refine absurd ?_ this
      rw [Bool.not_eq_true] at hb hc
      rw [hb, hc]
      simpa using fun e => hj e.symm
theorem ready_some {listed : Array Bool} {i : Nat} (h : i ∈ Region.ready .any ops listed) : ∃ o, ops[i]? = some o ∧ ops.getD i default = o := by
  obtain ⟨_, o, ho, _⟩ := mem_ready.1 h
  exact ⟨o, ho, by simp [Array.getD_eq_getD_getElem?, ho]⟩
theorem plan_sound {loads : List Nat} (hs : Region.noSelect ops = true) (hQ : ∀ c (a a' : Act) w, a'.defers = a.defers → Q (.panic c) a' w → Q (.panic c) a w) :
    ∀ (plan : PT) (n : Nat) (listed : Array Bool) (a : Act) (w : World), deep n plan = true → Closed ops listed → rwp P ops Q S (stepsOf ops (Region.before ops) loads plan) a w →
      (planOK ops (Region.before ops) loads false listed plan = true → wpF P ops Q S (flagOf (Region.before ops) loads) n listed a w) ∧
      (planOK ops (Region.before ops) loads true listed plan = true → ∀ i ∈ heads plan, i ∈ Region.ready .any ops listed → ∃ m, n = m + 1 ∧
        wpOp P ops Q i (fun a' w' => (flagOf (Region.before ops) loads i = true → S w → S w') ∧ wpF P ops Q S (flagOf (Region.before ops) loads) m (listed.setIfInBounds i true) a' w') a w)
  | .nil, n, listed, a, w, hn, hc, H => by
    refine ⟨fun h => ?_, fun h => by simp [planOK] at h⟩
    cases n with
    | zero => exact ⟨by simpa [planOK] using h, H⟩
    | succ n => simp [deep] at hn
  | .two x y, n, listed, a, w, hn, hc, H => by
    have hn' : deep n x = true ∧ deep n y = true := by cases n <;> simpa [deep] using hn
    have ix := plan_sound hs hQ x n listed a w hn'.1 hc H.1
    have iy := plan_sound hs hQ y n listed a w hn'.2 hc H.2
    have both : planOK ops (Region.before ops) loads true listed x = true → planOK ops (Region.before ops) loads true listed y = true → ∀ i ∈ heads (.two x y), i ∈ Region.ready .any ops listed → ∃ m, n = m + 1 ∧
        wpOp P ops Q i (fun a' w' => (flagOf (Region.before ops) loads i = true → S w → S w') ∧ wpF P ops Q S (flagOf (Region.before ops) loads) m (listed.setIfInBounds i true) a' w') a w := fun h1 h2 i hi hr => by
      rcases List.mem_append.1 hi with q | q
      · exact ix.2 h1 i q hr
      · exact iy.2 h2 i q hr
    constructor
    · intro h
      simp only [planOK, Bool.and_eq_true, Bool.false_or, List.all_eq_true] at h
      obtain ⟨⟨⟨he, h0⟩, h1⟩, h2⟩ := h
      have hmem : ∀ i ∈ Region.ready .any ops listed, i ∈ heads (.two x y) := fun i hi => by simpa [heads] using h0 i hi
      obtain ⟨i0, l0, hr0⟩ : ∃ i l, Region.ready .any ops listed = i :: l := by
        cases hr : Region.ready .any ops listed with
        | nil => rw [hr] at he; simp at he
        | cons i l => exact ⟨i, l, rfl⟩
      cases n with
      | zero =>
        obtain ⟨m, hm, _⟩ := both h1 h2 i0 (hmem i0 (by rw [hr0]; simp)) (by rw [hr0]; simp)
        omega
      | succ n =>
        refine ⟨fun e => (by rw [hr0] at e; cases e), fun i hi => ?_⟩
        obtain ⟨m, hm, q⟩ := both h1 h2 i (hmem i hi) hi
        cases hm
        exact q
    · intro h
      simp only [planOK, Bool.and_eq_true, Bool.true_or, true_and] at h
      exact both h.1 h.2
  | .one d i r, n, listed, a, w, hn, hc, H => by
    have hput : ∀ (a : Act) (x : Option Tmp) (v : Value), (a.put x v).defers = a.defers := fun a x v => by cases x <;> rfl
    obtain ⟨n, rfl⟩ : ∃ m, n = m + 1 := by
      cases n with
      | zero => simp [deep] at hn
      | succ n => exact ⟨n, rfl⟩
    have hn' : deep n r = true := by simpa [deep] using hn
    match d, H with
    | 0, H =>
      have step : i ∈ Region.ready .any ops listed → planOK ops (Region.before ops) loads false (listed.setIfInBounds i true) r = true →
          wpOp P ops Q i (fun a' w' => (flagOf (Region.before ops) loads i = true → S w → S w') ∧ wpF P ops Q S (flagOf (Region.before ops) loads) n (listed.setIfInBounds i true) a' w') a w := fun hm h => by
        obtain ⟨o, ho, hd⟩ := ready_some hm
        simp only [stepsOf, rwp, hd, Nat.beq, cond_true] at H
        unfold wpOp
        simp only [ho]
        split
        · rename_i hw
          rw [if_pos hw] at H
          exact .inl (Oper.wp_mono (fun a' w' q => ⟨fun e _ => q.1 e, (plan_sound hs hQ r n _ a' w' hn' (hc.set hm) q.2).1 h⟩) H)
        · rename_i hw
          rw [if_neg hw] at H
          exact ⟨fun e _ => H.1 e, (plan_sound hs hQ r n _ _ _ hn' (hc.set hm) H.2).1 h⟩
      constructor
      · intro h
        simp only [planOK, Bool.and_eq_true, Bool.false_or, beq_iff_eq] at h
        obtain ⟨hr, h⟩ := h
        refine ⟨fun e => (by rw [hr] at e; cases e), fun j hj => ?_⟩
        have : j = i := by rw [hr] at hj; simpa using hj
        subst this
        exact step hj h
      · intro h j hj hm
        simp only [planOK, Bool.and_eq_true, Bool.true_or, true_and] at h
        have : j = i := by simpa [heads] using hj
        subst this
        exact ⟨n, rfl, step hm h⟩
    | 1, H =>
      refine ⟨fun h => ?_, fun h => by simp [planOK] at h⟩
      simp only [planOK, Bool.and_eq_true] at h
      obtain ⟨⟨hr, hf⟩, h⟩ := h
      have hm : i ∈ Region.ready .any ops listed := by simpa using hr
      obtain ⟨o, ho, hd⟩ := ready_some hm
      simp only [stepsOf, rwp, hd] at H
      obtain ⟨v, hy, H⟩ := H
      exact wpF_pure ho (Region.noSelect_spec hs) (fun c a w q => hQ c _ _ w (hput _ _ _) q) _ listed a w (Region.free_spec ho hf) hm hy ((plan_sound hs hQ r n _ _ _ hn' (hc.set hm) H).1 h)
    | d + 2, H =>
      refine ⟨fun h => ?_, fun h => by simp [planOK] at h⟩
      simp only [planOK, Bool.and_eq_true] at h
      obtain ⟨⟨⟨hr, hf⟩, hl⟩, h⟩ := h
      have hm : i ∈ Region.ready .any ops listed := by simpa using hr
      obtain ⟨o, ho, hd⟩ := ready_some hm
      simp only [stepsOf, rwp, hd] at H
      obtain ⟨hS, v, hy, H⟩ := H
      exact wpF_load ho (Region.noSelect_spec hs) (fun c a w q => hQ c _ _ w (hput _ _ _) q) (flag_anc hl) _ listed a w hc (Region.free_spec ho hf) hm hy hS ((plan_sound hs hQ r n _ _ _ hn' (hc.set hm) H).1 h)
/-! ### the same in a round's frame -/
def noDef (o : Oper) : Bool := match o.op with
  | .defer _ => false
  | _ => true
def noDefs : List Oper → Bool
  | [] => true
  | o :: r => noDef o && noDefs r
theorem noDef_ne {o : Oper} (h : noDef o = true) : ∀ c, o.op ≠ .defer c := fun c e => by simp [noDef, e] at h
theorem noDefs_mem : ∀ {l : List Oper}, noDefs l = true → ∀ o ∈ l, noDef o = true
  | [], _, o, h => by cases h
  | x :: l, h, o, hm => by
    simp only [noDefs, Bool.and_eq_true] at h
    rcases List.mem_cons.1 hm with rfl | hm
    · exact h.1
    · exact noDefs_mem h.2 o hm
theorem fen_fn (ro : Option Nat) (f : FuncId) : (fen ro).fn f := by cases ro <;> trivial
theorem fen_depth (ro : Option Nat) : (fen ro).depth.isSome = true → 1 ≤ 0 := by cases ro <;> (intro h; simp [fen, Fence.wide] at h)
theorem fen_round (ro : Option Nat) : (fen ro).round = ro := by cases ro <;> rfl
theorem calls_fen {ro : Option Nat} {n : Nat} {f : FuncId} {args : Array Value} {w : World} {R : Ending → World → Prop} (h : Calls P f args w R) : CallsIn (fen ro) n P f args w R := by
  cases ro with
  | none => exact callsIn_wide.2 h
  | some l => exact CallsIn.inRound l (callsIn_wide.2 h)
theorem rows_fen {ro : Option Nat} {n : Nat} {row : String} {args : Array Value} {w : World} {R : Value → World → Prop} (h : Rows P row args w R) : RowsIn (fen ro) n P row args w R := fun c cs hr => by
  obtain ⟨v, w', q, s⟩ := h c cs
  refine ⟨v, w', q, ?_⟩
  cases ro with
  | none => exact stepsIn_wide.2 s
  | some l => exact stepsIn_wide.2 s
theorem up_op {ro : Option Nat} {o : Oper} {a : Act} {w : World} {K : Act → World → Prop} (h : o.wp P a w K Q) (hd : noDef o = true) : o.wpIn (fen ro) 0 P a w K Q := by
  refine ⟨fun f _ => fen_fn ro f, ?_⟩
  rw [Oper.semAt_eq _ _ _ (noDef_ne hd)]
  unfold Oper.wp at h
  generalize (execOp a.eval o).run P w = r at *
  cases r with
  | ok x w' =>
    cases x <;> simp only [Oper.upon, Oper.uponIn] at h ⊢ <;>
      first
        | exact h
        | exact ⟨fen_depth ro, calls_fen h⟩
        | exact ⟨fen_depth ro, rows_fen h⟩
  | halt x w' => cases x <;> simp only [Oper.upon, Oper.uponIn] at h ⊢ <;> exact h
theorem up_list {ro : Option Nat} (hno : ¬ LetsOut Q) : ∀ (l : List Oper) (a : Act) (w : World), noDefs l = true → wpList P ops Q l a w → wpListIn (fen ro) 0 P ops Q l a w
  | [], _, _, _, h => h
  | o :: l, a, w, hd, h => by
    simp only [noDefs, Bool.and_eq_true] at hd
    simp only [wpList] at h
    simp only [wpListIn]
    split at h
    · rename_i hw
      rw [if_pos hw]
      refine up_op ?_ hd.1
      rcases h with h | h
      · exact Oper.wp_mono (fun a' w' q => up_list hno l a' w' hd.2 q) h
      · exact absurd h.2 hno
    · rename_i hw
      rw [if_neg hw]
      exact ⟨fun f _ => fen_fn ro f, up_list hno l _ _ hd.2 h⟩
theorem up_yld {ro : Option Nat} {o : Oper} {a : Act} {w : World} {K : Act → World → Prop} (h : o.wpIn Fence.wide 0 P a w K Q) (hd : noDef o = true) : o.wpIn (fen ro) 0 P a w K Q := by
  cases ro with
  | none => exact h
  | some l =>
    refine ⟨fun f _ => trivial, ?_⟩
    have h2 := h.2
    rw [Oper.semAt_eq _ _ _ (noDef_ne hd)] at h2 ⊢
    generalize (execOp a.eval o).run P w = r at *
    cases r with
    | ok x w' => cases x <;> exact h2
    | halt x w' => cases x <;> exact h2
/-- In the text's order, the marked ones being calls of a loop's yield. -/
def textStepsY : List Bool → List Oper → Pl
  | _, [] => .nil
  | true :: m, o :: r => .yld o (textStepsY m r)
  | false :: m, o :: r => .one 0 false o (textStepsY m r)
  | [], o :: r => .one 0 false o (textStepsY [] r)
theorem up_textY {ro : Option Nat} : ∀ (m : List Bool) (l : List Oper) (a : Act) (w : World), noDefs l = true → rwp P ops Q S (textStepsY m l) a w → wpListIn (fen ro) 0 P ops Q l a w := by
  have step0 : ∀ (o : Oper) (l : List Oper) (x : Pl) (a : Act) (w : World), noDef o = true → (∀ a' w', rwp P ops Q S x a' w' → wpListIn (fen ro) 0 P ops Q l a' w') → rwp P ops Q S (.one 0 false o x) a w → wpListIn (fen ro) 0 P ops Q (o :: l) a w := fun o l x a w hd ih h => by
    simp only [rwp] at h
    simp only [wpListIn]
    split at h
    · rename_i hw
      rw [if_pos hw]
      exact up_op (Oper.wp_mono (fun a' w' q => ih a' w' q.2) h) hd
    · rename_i hw
      rw [if_neg hw]
      exact ⟨fun f _ => fen_fn ro f, ih _ _ h.2⟩
  intro m l
  induction l generalizing m with
  | nil => intro a w _ h; cases m <;> exact h
  | cons o l ih =>
    intro a w hd h
    simp only [noDefs, Bool.and_eq_true] at hd
    match m, h with
    | [], h => exact step0 o l _ a w hd.1 (fun a' w' q => ih [] a' w' hd.2 q) h
    | false :: m, h => exact step0 o l _ a w hd.1 (fun a' w' q => ih m a' w' hd.2 q) h
    | true :: m, h =>
      simp only [textStepsY, rwp] at h
      simp only [wpListIn]
      split at h
      · rename_i hw
        rw [if_pos hw]
        exact up_yld (Oper.wpIn_mono (fun a' w' q => ih m a' w' hd.2 q) h) hd.1
      · rename_i hw
        rw [if_neg hw]
        exact ⟨fun f _ => fen_fn ro f, ih m _ _ hd.2 h⟩
theorem up_any {ro : Option Nat} (hno : ¬ LetsOut Q) (hd : noDefs ops.toList = true) : ∀ (fuel : Nat) (listed : Array Bool) (a : Act) (w : World), wpAny P .any ops Q fuel listed a w → wpAnyIn (fen ro) 0 P .any ops Q fuel listed a w
  | 0, _, _, _, h => h
  | fuel + 1, listed, a, w, h => ⟨h.1, fun i hi => by
    have h1 := h.2 i hi
    unfold wpOp at h1
    unfold wpOpIn
    split
    · rename_i hn
      simp only [hn] at h1
      exact up_any hno hd fuel _ a w h1
    · rename_i o ho
      simp only [ho] at h1
      have hdo : noDef o = true := noDefs_mem hd o (by rw [Array.mem_toList_iff]; exact Array.mem_of_getElem? ho)
      split
      · rename_i hw
        rw [if_pos hw] at h1
        refine up_op ?_ hdo
        rcases h1 with h1 | h1
        · exact Oper.wp_mono (fun a' w' q => up_any hno hd fuel _ a' w' q) h1
        · exact absurd h1.2 hno
      · rename_i hw
        rw [if_neg hw] at h1
        exact ⟨fun f _ => fen_fn ro f, up_any hno hd fuel _ _ _ h1⟩⟩
theorem wp_region_plan {ro : Option Nat} {id : Nat} {a : Act} {w : World} (loads : List Nat) (plan : PT) (hm : P.follows .mixedOrders = true) (nd : noDefs ops.toList = true) (hno : ¬ LetsOut Q) (hp : planFits ops loads plan = true)
    (hQ : ∀ c (a a' : Act) w, a'.defers = a.defers → Q (.panic c) a' w → Q (.panic c) a w)
    (h : rwp P ops Q S (stepsOf ops (Region.before ops) loads plan) a { w with drawn := w.drawn + 1 }) : (Code.region id ops true).wpIn (fen ro) 0 P Q a w := by
  simp only [planFits, Bool.and_eq_true] at hp
  obtain ⟨⟨h1, h2⟩, h3⟩ := hp
  exact wpIn_region_any hm (up_any hno nd _ _ _ _ (wpAny_of_F _ _ _ _ ((plan_sound h1 hQ plan _ _ a _ h2 (Closed.none _) h).1 h3)))
end

def SatS (Ps : List PA) (Os : List OA) (w : World) : Prop := ∃ hp ho, Sat w hp ho Ps Os
section
variable {C : Ctx} {k : List It} {E : Env} {Ps : List PA} {Os : List OA}
theorem go_region {id : Nat} {ops : Array Oper} (nd : noDefs ops.toList = true) (g : Go C (.ops ops (fun _ => True) (textSteps ops.toList) :: k) E Ps Os) : Go C (.code (.region id ops false) :: k) E Ps Os := fun a w hp ho hf hs hb =>
  wpIn_region_list (up_list (den_no C k) _ _ _ nd (rwp_text _ _ _ (g a w hp ho hf hs hb)))
theorem go_regionY (m : List Bool) {id : Nat} {ops : Array Oper} (nd : noDefs ops.toList = true) (g : Go C (.ops ops (fun _ => True) (textStepsY m ops.toList) :: k) E Ps Os) : Go C (.code (.region id ops false) :: k) E Ps Os := fun a w hp ho hf hs hb =>
  wpIn_region_list (up_textY m _ _ _ nd (g a w hp ho hf hs hb))
theorem Sat.drew {w : World} {hp ho : Heap} (hs : Sat w hp ho Ps Os) : Sat { w with drawn := w.drawn + 1 } hp ho Ps Os := ⟨hs.inp, hs.ino, hs.dj, hs.ps, hs.os⟩
theorem Base.drew {w : World} {hp ho : Heap} (hb : Base C w hp ho) : Base C { w with drawn := w.drawn + 1 } hp ho := ⟨hb.hp0, hb.hf, hb.djp, hb.djo, ⟨hb.rest.os, hb.rest.tape, hb.rest.output, Nat.le_succ_of_le hb.rest.drawn, hb.rest.size⟩⟩
theorem go_draw (kPs : List PA) (kOs : List OA) (loads : List Nat) (plan : PT) {id : Nat} {ops : Array Oper} (hm : C.P.follows .mixedOrders = true) (nd : noDefs ops.toList = true) (hp : planFits ops loads plan = true)
    (g : Go C (.ops ops (SatS kPs kOs) (stepsOf ops (Region.before ops) loads plan) :: k) E Ps Os) : Go C (.code (.region id ops true) :: k) E Ps Os := fun a w hp' ho hf hs hb =>
  wp_region_plan loads plan hm nd (den_no C k) hp (fun c a a' w e q => by
    rw [den_panic] at q
    exact absurd q (C.pan _ _ _)) (g a _ hp' ho hf hs.drew hb.drew)
/-- All that is known is kept. -/
theorem go_draw' (loads : List Nat) (plan : PT) {id : Nat} {ops : Array Oper} (hm : C.P.follows .mixedOrders = true) (nd : noDefs ops.toList = true) (hp : planFits ops loads plan = true)
    (g : Go C (.ops ops (SatS Ps Os) (stepsOf ops (Region.before ops) loads plan) :: k) E Ps Os) : Go C (.code (.region id ops true) :: k) E Ps Os := go_draw Ps Os loads plan hm nd hp g
end
end Go.Proofs.Ytdkfpgdfjnaciaa.SL
