/- The judgement's rules for operations: what hangs on the operands alone, new blocks, loads, stores, calls. -/
import Derived.Test.YtdkfpgdfjnaciaaS2
set_option linter.unusedVariables false
set_option linter.unusedSimpArgs false
namespace Go.Proofs.Ytdkfpgdfjnaciaa.SL

/-! ### cells -/
def cellH (h : Heap) (b i : Nat) : Option Value := match h b with
  | some (.cells c _ _) => c[i]?
  | _ => none
theorem cellH_le {h h' : Heap} (hl : h.le h') {b i : Nat} {v : Value} (e : cellH h b i = some v) : cellH h' b i = some v := by
  unfold cellH at *
  cases hb : h b with
  | none => rw [hb] at e; cases e
  | some o => rw [hb] at e; rw [hl _ _ hb]; exact e
theorem cellH_world {w : World} {b i : Nat} {v : Value} (e : cellH (hpOf w) b i = some v) : w.cell? ⟨b, i, none⟩ = some v := by
  unfold cellH hpOf at e
  unfold World.cell?
  cases hb : w.heap[b]? with
  | none => simp only [hb] at e; cases e
  | some o =>
    simp only [hb] at e
    cases o <;> simp_all
def pt (b : Nat) (ty : TypeId) (cs : List Value) : OA := ⟨fun _ ho => ho b = some (.cells cs.toArray ty (0, 0)), fun _ h => h⟩
def cl (b o : Nat) (cs : List Value) : PA := ⟨fun hp => ∀ j v, cs[j]? = some v → cellH hp b (o + j) = some v, fun hl h j v e => cellH_le hl (h j v e)⟩
def At (Ps : List PA) (Os : List OA) (b o n : Nat) (cs : List Value) : Prop :=
  cs.length = n ∧ ∀ (w : World) (hp ho : Heap), Sat w hp ho Ps Os → ∀ j v, cs[j]? = some v → w.cell? ⟨b, o + j, none⟩ = some v
section
variable {C : Ctx} {k : List It} {E : Env} {Ps : List PA} {Os : List OA}
theorem Rem.sep {A : OA} {Os r : List OA} (h : Rem A Os r) {hp ho : Heap} (hs : Sep hp Os ho) : ∃ h1 : Heap, h1.le ho ∧ A.p hp h1 := by
  obtain ⟨h1, _, a, _, _, d, _⟩ := Sep.rem h hs
  exact ⟨h1, a, d⟩
theorem at_pt {b o n : Nat} {ty : TypeId} {cs0 cs : List Value} {r : List OA} (h : Rem (pt b ty cs0) Os r) (e : takeL n (dropL o cs0) = some cs) : At Ps Os b o n cs := ⟨(takeL_eq e).2, fun w hp ho hs j v hj => by
  obtain ⟨h1, l1, d⟩ := h.sep hs.os
  obtain ⟨e1, e2⟩ := takeL_eq e
  rw [dropL_eq] at e1
  refine cellH_world (cellH_le (l1.tr hs.ino) ?_)
  change h1 b = _ at d
  simp only [cellH, d]
  rw [e1, List.getElem?_take] at hj
  split at hj
  · rw [List.getElem?_drop] at hj
    simpa using hj
  · cases hj⟩
theorem at_cl {b o : Nat} (k : Nat) {n : Nat} {cs0 cs : List Value} (h : cl b o cs0 ∈ Ps) (e : takeL n (dropL k cs0) = some cs) : At Ps Os b (o + k) n cs := ⟨(takeL_eq e).2, fun w hp ho hs j v hj => by
  have d := hs.ps _ h
  obtain ⟨e1, e2⟩ := takeL_eq e
  rw [dropL_eq] at e1
  refine cellH_world (cellH_le hs.inp ?_)
  rw [e1, List.getElem?_take] at hj
  split at hj
  · rw [List.getElem?_drop] at hj
    have := d _ _ hj
    rw [Nat.add_assoc]
    exact this
  · cases hj⟩

def packV : Bool → List Value → Option Value
  | true, l => some (.agg l.toArray)
  | false, [v] => some v
  | false, _ => none
theorem loadCells_run {P : Program} {w : World} {b : Nat} : ∀ (n i o : Nat) (cs : List Value) (acc : Array Value), cs.length = n → (∀ j v, cs[j]? = some v → w.cell? ⟨b, o + (i + j), none⟩ = some v) →
    (loadCellsFrom ⟨b, o, none⟩ i n acc).run P w = .ok (acc ++ cs.toArray) w
  | 0, i, o, cs, acc, hl, h => by
    have : cs = [] := List.eq_nil_of_length_eq_zero hl
    subst this
    simp [loadCellsFrom]
  | n + 1, i, o, cs, acc, hl, h => by
    cases cs with
    | nil => simp at hl
    | cons v cs =>
      have h0 := h 0 v (by simp)
      simp only [loadCellsFrom, run_addOff]
      have : (load ⟨b, o + i, none⟩).run P w = .ok v w := by
        simp only [load, Sem.run]
        rw [show o + i = o + (i + 0) from rfl, h0]
      simp only [Sem.run_bind, this, Result.andThen_ok]
      rw [loadCells_run n (i + 1) o cs (acc.push v) (by simpa using hl) (fun j u hj => by
        have := h (j + 1) u (by simpa using hj)
        rw [show o + (i + 1 + j) = o + (i + (j + 1)) from by omega]
        exact this)]
      congr 1
      apply Array.ext'
      simp
theorem loadVar_run {P : Program} {tb : TB} (ht : TOk P tb) {w : World} {t : Nat} {i : TI} (e : lookT tb t = some i) {b o : Nat} {cs : List Value} {v : Value} (hl : cs.length = i.size) (hv : packV i.agg cs = some v)
    (h : ∀ j v, cs[j]? = some v → w.cell? ⟨b, o + j, none⟩ = some v) : (loadVar t ⟨b, o, none⟩).run P w = .ok v w := by
  have ha := (ht _ _ e).agg
  have hs := (ht _ _ e).size
  cases hg : i.agg with
  | true =>
    rw [hg] at ha hv
    simp only [packV, Option.some.injEq] at hv
    subst hv
    simp only [loadVar, Sem.run_bind, ha, Result.andThen_ok, if_true, hs, loadCells]
    rw [loadCells_run i.size 0 o cs #[] hl (fun j v hj => by rw [Nat.zero_add]; exact h j v hj)]
    simp
  | false =>
    rw [hg] at ha hv
    match cs, hv with
    | [u], hv =>
      simp only [packV, Option.some.injEq] at hv
      subst hv
      simp only [loadVar, Sem.run_bind, ha, Result.andThen_ok, Bool.false_eq_true, if_false, load, Sem.run]
      have := h 0 u (by simp)
      simp only [Nat.add_zero] at this
      simp [this]

/-! ### guards -/
def wants (ops : Array Oper) (E : Env) (o : Oper) : Option Bool :=
  match o.guard with
  | none => some true
  | some (g, b) => match atL ops.toList g with
    | some og => match og.dst with
      | some t => match look E t with
        | some (.bool x) => match x, b with
          | true, true => some true
          | false, false => some true
          | true, false => some false
          | false, true => some false
        | some (.tuple _) => some false
        | _ => none
      | none => none
    | none => none
theorem wants_eq {N : NN} {a : Act} (hf : Fits N E a) {ops : Array Oper} {o : Oper} {r : Bool} (h : wants ops E o = some r) : Region.wanted o (yielded ops a.tmps) = r := by
  unfold wants at h
  unfold Region.wanted
  split at h
  · rename_i e; rw [e]; cases h; rfl
  · rename_i g b e
    rw [e]
    split at h
    · rename_i og e2
      rw [atL_eq, Array.getElem?_toList] at e2
      split at h
      · rename_i t e3
        split at h
        · rename_i x e4
          have := hf.at_ _ _ e4
          simp only [yielded, e2, Option.bind_some, e3, this]
          split at h <;> cases h <;> rfl
        · rename_i e4
          have := hf.at_ _ _ e4
          simp only [yielded, e2, Option.bind_some, e3, this]
          cases h
          cases b <;> rfl
        · cases h
      · cases h
    · cases h
  
theorem put_defers (a : Act) (d : Option Tmp) (v : Value) : (a.put d v).defers = a.defers := by cases d <;> rfl
variable {ops : Array Oper} {S : World → Prop} {o : Oper} {r : Pl} {f : Bool}
theorem go_pure0 {tb : TB} (ht : TOk C.P tb) {v : Value} (hw : wants ops E o = some true) (h : pureOp tb E o.op = some v) (hd : okDst C.N o.dst = true)
    (g : Go C (.ops ops S r :: k) (setE o.dst v E) Ps Os) : Go C (.ops ops S (.one 0 false o r) :: k) E Ps Os := fun a w hp ho hf hs hb => by
  show rwp _ _ _ _ _ _ _
  rw [rwp, if_pos (wants_eq hf hw)]
  unfold Oper.wp
  rw [run_pure ht w hf h]
  exact ⟨(fun e => nomatch e), g _ w hp ho (hf.put hd v) hs hb⟩
theorem go_pure1 {tb : TB} (ht : TOk C.P tb) {v : Value} (hw : wants ops E o = some true) (h : pureOp tb E o.op = some v) (hd : okDst C.N o.dst = true)
    (g : Go C (.ops ops S r :: k) (setE o.dst v E) Ps Os) : Go C (.ops ops S (.one 1 f o r) :: k) E Ps Os := fun a w hp ho hf hs hb =>
  ⟨v, .inl ⟨wants_eq hf hw, fun w' => run_pure ht w' hf h⟩, g _ w hp ho (hf.put hd v) hs hb⟩
theorem go_skip0 (hw : wants ops E o = some false) (hd : okDst C.N o.dst = true) (g : Go C (.ops ops S r :: k) (setE o.dst undef E) Ps Os) : Go C (.ops ops S (.one 0 false o r) :: k) E Ps Os := fun a w hp ho hf hs hb => by
  show rwp _ _ _ _ _ _ _
  rw [rwp, if_neg (by rw [wants_eq hf hw]; simp)]
  exact ⟨(fun e => nomatch e), g _ w hp ho (hf.put hd undef) hs hb⟩
theorem go_skip1 (hw : wants ops E o = some false) (hd : okDst C.N o.dst = true) (g : Go C (.ops ops S r :: k) (setE o.dst undef E) Ps Os) : Go C (.ops ops S (.one 1 f o r) :: k) E Ps Os := fun a w hp ho hf hs hb =>
  ⟨undef, .inr ⟨wants_eq hf hw, rfl⟩, g _ w hp ho (hf.put hd undef) hs hb⟩
/-- A load (or what else reads memory alone), in the text's order. -/
theorem go_val0 {v : Value} (hw : wants ops E o = some true) (h : ∀ a w hp ho, Fits C.N E a → Sat w hp ho Ps Os → (execOp a.eval o).run C.P w = .ok (.value v) w) (hd : okDst C.N o.dst = true)
    (g : Go C (.ops ops S r :: k) (setE o.dst v E) Ps Os) : Go C (.ops ops S (.one 0 false o r) :: k) E Ps Os := fun a w hp ho hf hs hb => by
  show rwp _ _ _ _ _ _ _
  rw [rwp, if_pos (wants_eq hf hw)]
  unfold Oper.wp
  rw [h a w hp ho hf hs]
  exact ⟨(fun e => nomatch e), g _ w hp ho (hf.put hd v) hs hb⟩
/-- The same where the order is drawn: what it reads is among what is kept. -/
theorem go_val2 {kPs : List PA} {kOs rr : List OA} {n : Nat} {v : Value} (hw : wants ops E o = some true) (h : ∀ a w hp ho, Fits C.N E a → Sat w hp ho kPs kOs → (execOp a.eval o).run C.P w = .ok (.value v) w)
    (hkP : Subs Ps kPs) (hkO : Takes Os kOs rr) (hd : okDst C.N o.dst = true)
    (g : Go C (.ops ops (SatS kPs kOs) r :: k) (setE o.dst v E) Ps Os) : Go C (.ops ops (SatS kPs kOs) (.one (n + 2) f o r) :: k) E Ps Os := fun a w hp ho hf hs hb => by
  obtain ⟨h1, h2, a1, b, c1, d, e⟩ := Sep.takes hkO hs.os
  exact ⟨⟨hp, ho, hs.inp, hs.ino, hs.dj, (hs.ents hkP.ents).ps, Sep.mono a1 d⟩, v, .inl ⟨wants_eq hf hw, fun w' ⟨hp', ho', hs'⟩ => h a w' hp' ho' hf hs'⟩, g _ w hp ho (hf.put hd v) hs hb⟩
theorem load_val {tb : TB} (ht : TOk C.P tb) {t : TypeId} {x : Operand} {i : TI} {b oo : Nat} {cs : List Value} {v : Value} (ho : o.op = .load t x) (hx : ev E x = some (.pointer (some ⟨b, oo, none⟩)))
    (hi : lookT tb t = some i) (hA : At Ps Os b oo i.size cs) (hv : packV i.agg cs = some v) :
    ∀ a w hp ho, Fits C.N E a → Sat w hp ho Ps Os → (execOp a.eval o).run C.P w = .ok (.value v) w := fun a w hp ho' hf hs => by
  have := loadVar_run ht hi hA.1 hv (hA.2 w hp ho' hs)
  simp [execOp, ho, hf.ev hx, Instr.loadAt, Instr.sureAddr, this]

theorem go_skip2 {kPs : List PA} {kOs rr : List OA} {n : Nat} (hw : wants ops E o = some false) (hkP : Subs Ps kPs) (hkO : Takes Os kOs rr) (hd : okDst C.N o.dst = true)
    (g : Go C (.ops ops (SatS kPs kOs) r :: k) (setE o.dst undef E) Ps Os) : Go C (.ops ops (SatS kPs kOs) (.one (n + 2) f o r) :: k) E Ps Os := fun a w hp ho hf hs hb => by
  obtain ⟨h1, h2, a1, b, c1, d, e⟩ := Sep.takes hkO hs.os
  exact ⟨⟨hp, ho, hs.inp, hs.ino, hs.dj, (hs.ents hkP.ents).ps, Sep.mono a1 d⟩, undef, .inr ⟨wants_eq hf hw, rfl⟩, g _ w hp ho (hf.put hd undef) hs hb⟩
/-! ### what changes memory -/
theorem go_eff {α : Type} (v : α → Value) (Ps' : α → List PA) (Os' : α → List OA) (hw : wants ops E o = some true) (hd : okDst C.N o.dst = true)
    (h : ∀ a w hp ho, Fits C.N E a → Sat w hp ho Ps Os → Base C w hp ho → ∃ x w' hp' ho', (execOp a.eval o).run C.P w = .ok (.value (v x)) w' ∧ Sat w' hp' ho' (Ps' x) (Os' x) ∧ Base C w' hp' ho')
    (hS : f = true → ∀ x w hp ho, Sat w hp ho (Ps' x) (Os' x) → S w)
    (g : ∀ x, Go C (.ops ops S r :: k) (setE o.dst (v x) E) (Ps' x) (Os' x)) : Go C (.ops ops S (.one 0 f o r) :: k) E Ps Os := fun a w hp ho hf hs hb => by
  show rwp _ _ _ _ _ _ _
  rw [rwp, if_pos (wants_eq hf hw)]
  obtain ⟨x, w', hp', ho', hr, hs', hb'⟩ := h a w hp ho hf hs hb
  unfold Oper.wp
  rw [hr]
  exact ⟨fun e => hS e x w' hp' ho' hs', g x _ w' hp' ho' (hf.put hd _) hs' hb'⟩
theorem go_effU (Ps' : List PA) (Os' : List OA) (hw : wants ops E o = some true) (hd : okDst C.N o.dst = true)
    (h : ∀ a w hp ho, Fits C.N E a → Sat w hp ho Ps Os → Base C w hp ho → ∃ w' hp' ho', (execOp a.eval o).run C.P w = .ok .skip w' ∧ Sat w' hp' ho' Ps' Os' ∧ Base C w' hp' ho')
    (hS : f = true → ∀ w hp ho, Sat w hp ho Ps' Os' → S w)
    (g : Go C (.ops ops S r :: k) (setE o.dst undef E) Ps' Os') : Go C (.ops ops S (.one 0 f o r) :: k) E Ps Os := fun a w hp ho hf hs hb => by
  show rwp _ _ _ _ _ _ _
  rw [rwp, if_pos (wants_eq hf hw)]
  obtain ⟨w', hp', ho', hr, hs', hb'⟩ := h a w hp ho hf hs hb
  unfold Oper.wp
  rw [hr]
  exact ⟨fun e => hS e w' hp' ho' hs', g _ w' hp' ho' (hf.put hd _) hs' hb'⟩
theorem satS {kPs : List PA} {kOs rr : List OA} (hkP : Subs Ps kPs) (hkO : Takes Os kOs rr) (w : World) (hp ho : Heap) (hs : Sat w hp ho Ps Os) : SatS kPs kOs w := by
  obtain ⟨h1, h2, a1, b, c1, d, e⟩ := Sep.takes hkO hs.os
  exact ⟨hp, ho, hs.inp, hs.ino, hs.dj, (hs.ents hkP.ents).ps, Sep.mono a1 d⟩

/-- A new block. -/
theorem sat_alloc {w : World} {hp ho : Heap} (hs : Sat w hp ho Ps Os) (hb : Base C w hp ho) (A : OA) (ob : Obj) (hA : ∀ h : Heap, h w.heap.size = some ob → A.p hp h) :
    ∃ ho', Sat { w with heap := w.heap.push ob } hp ho' Ps (A :: Os) ∧ Base C { w with heap := w.heap.push ob } hp ho' := by
  have fresh : ∀ h : Heap, h.le (hpOf w) → h w.heap.size = none := fun h hl => by
    cases e : h w.heap.size with
    | none => rfl
    | some u => have := hl _ _ e; simp [hpOf] at this
  have grow : (hpOf w).le (hpOf { w with heap := w.heap.push ob }) := fun b u e => by
    simp only [hpOf] at e ⊢
    rw [Array.getElem?_push_lt (Array.getElem?_eq_some_iff.1 e).1]
    have := (Array.getElem?_eq_some_iff.1 e).2
    simp [this]
  have new : (Heap.one w.heap.size ob).le (hpOf { w with heap := w.heap.push ob }) := Heap.one_le (by simp [hpOf])
  have d1 : (Heap.one w.heap.size ob).dj ho := Heap.one_dj (fresh _ hs.ino)
  have d2 : (Heap.one w.heap.size ob).dj hp := Heap.one_dj (fresh _ hs.inp)
  have d3 : (Heap.one w.heap.size ob).dj C.hf := Heap.one_dj (fresh _ hb.hf)
  refine ⟨(Heap.one w.heap.size ob).add ho, ⟨hs.inp.tr grow, Heap.add_le new (hs.ino.tr grow), Heap.dj_symm (Heap.add_dj d2 (Heap.dj_symm hs.dj)), hs.ps,
    Heap.one w.heap.size ob, ho, Heap.le_add_left _ _, Heap.le_add_right d1, d1, hA _ (by simp [Heap.one]), hs.os⟩,
    hb.hp0, hb.hf.tr grow, hb.djp, Heap.dj_symm (Heap.add_dj d3 (Heap.dj_symm hb.djo)), hb.rest.os, hb.rest.tape, hb.rest.output, hb.rest.drawn, ?_⟩
  have := hb.rest.size
  simp; omega
def cellsL : Value → List Value
  | .agg cs => cs.toList
  | v => [v]
theorem cellsL_eq (v : Value) : v.cells = (cellsL v).toArray := by cases v <;> simp [Value.cells, cellsL]
theorem takeL_all {α : Type} {n : Nat} {l r : List α} (h : takeL n l = some r) (hl : Nat.beq l.length n = true) : r = l := by
  rw [(takeL_eq h).1, ← Nat.eq_of_beq_eq_true hl, List.take_length]
theorem go_box {tb : TB} (ht : TOk C.P tb) {t : TypeId} {x : Operand} {v : Value} {i : TI} {cs : List Value} (ho : o.op = .box t x) (hw : wants ops E o = some true) (hx : ev E x = some v) (hi : lookT tb t = some i)
    (hc : takeL i.size (cellsL v) = some cs) (hl : Nat.beq (cellsL v).length i.size = true) (hd : okDst C.N o.dst = true)
    (hS : f = true → ∀ b w hp ho, Sat w hp ho Ps (pt b t cs :: Os) → S w)
    (g : ∀ b, Go C (.ops ops S r :: k) (setE o.dst (.pointer (some ⟨b, 0, none⟩)) E) Ps (pt b t cs :: Os)) : Go C (.ops ops S (.one 0 f o r) :: k) E Ps Os :=
  go_eff (fun b => .pointer (some ⟨b, 0, none⟩)) (fun _ => Ps) (fun b => pt b t cs :: Os) hw hd (fun a w hp ho' hf hs hb => by
    obtain rfl := takeL_all hc hl
    obtain ⟨ho2, h1, h2⟩ := sat_alloc hs hb (pt w.heap.size t (cellsL v)) (.cells (cellsL v).toArray t) (fun h e => e)
    refine ⟨w.heap.size, _, hp, ho2, ?_, h1, h2⟩
    simp [execOp, ho, hf.ev hx, Instr.box, newVar, newRow, newObj, Sem.run, cellsL_eq]) hS g
theorem go_alloc {tb : TB} (ht : TOk C.P tb) {t : TypeId} {i : TI} {cs : List Value} (ho : o.op = .alloc t) (hw : wants ops E o = some true) (hi : lookT tb t = some i)
    (hc : takeL i.size (cellsL i.zero) = some cs) (hl : Nat.beq (cellsL i.zero).length i.size = true) (hd : okDst C.N o.dst = true)
    (hS : f = true → ∀ b w hp ho, Sat w hp ho Ps (pt b t cs :: Os) → S w)
    (g : ∀ b, Go C (.ops ops S r :: k) (setE o.dst (.pointer (some ⟨b, 0, none⟩)) E) Ps (pt b t cs :: Os)) : Go C (.ops ops S (.one 0 f o r) :: k) E Ps Os :=
  go_eff (fun b => .pointer (some ⟨b, 0, none⟩)) (fun _ => Ps) (fun b => pt b t cs :: Os) hw hd (fun a w hp ho' hf hs hb => by
    obtain rfl := takeL_all hc hl
    obtain ⟨ho2, h1, h2⟩ := sat_alloc hs hb (pt w.heap.size t (cellsL i.zero)) (.cells (cellsL i.zero).toArray t) (fun h e => e)
    refine ⟨w.heap.size, _, hp, ho2, ?_, h1, h2⟩
    simp [execOp, ho, Instr.alloc, (ht _ _ hi).zero, newVar, newRow, newObj, Sem.run, cellsL_eq]) hS g

/-! ### stores -/
def putL {α : Type} : Nat → List α → List α → Option (List α)
  | 0, [], l => some l
  | 0, _ :: _, [] => none
  | 0, v :: vs, _ :: l => match putL 0 vs l with
    | some l' => some (v :: l')
    | none => none
  | _ + 1, _, [] => none
  | n + 1, vs, a :: l => match putL n vs l with
    | some l' => some (a :: l')
    | none => none
def oneCells : List Value → Bool
  | [] => true
  | .agg _ :: _ => false
  | .tuple _ :: _ => false
  | _ :: r => oneCells r
theorem putL_eq {α : Type} : ∀ {n : Nat} {vs l l' : List α}, putL n vs l = some l' → n + vs.length ≤ l.length ∧ l' = l.take n ++ (vs ++ l.drop (n + vs.length))
  | 0, [], l, l', h => by simp [putL] at h; subst h; simp
  | 0, _ :: _, [], l', h => by simp [putL] at h
  | 0, v :: vs, a :: l, l', h => by
    simp only [putL] at h
    split at h
    · rename_i m e
      cases h
      obtain ⟨h1, h2⟩ := putL_eq e
      refine ⟨by simp at h1 ⊢; omega, ?_⟩
      simp [h2]
    · cases h
  | n + 1, vs, [], l', h => by simp [putL] at h
  | n + 1, vs, a :: l, l', h => by
    simp only [putL] at h
    split at h
    · rename_i m e
      cases h
      obtain ⟨h1, h2⟩ := putL_eq e
      refine ⟨by simp; omega, ?_⟩
      rw [h2]
      simp [Nat.add_right_comm n 1]
    · cases h
theorem run_store_one {P : Program} {w : World} {b i : Nat} {c : Array Value} {ty : TypeId} {v : Value} (hb : w.heap[b]? = some (.cells c ty (0, 0))) (hi : i < c.size) (h1 : oneCells [v] = true) :
    (store ⟨b, i, none⟩ v).run P w = .ok () { w with heap := w.heap.setIfInBounds b (.cells (c.setIfInBounds i v) ty (0, 0)) } := by
  have hc : w.cell? ⟨b, i, none⟩ = some c[i] := by simp [World.cell?, hb, hi]
  have hz : w.frozen? ⟨b, i, none⟩ = false := by simp [World.frozen?, hb]
  have hw : w.setCell ⟨b, i, none⟩ v = { w with heap := w.heap.setIfInBounds b (.cells (c.setIfInBounds i v) ty (0, 0)) } := by
    have hlt : b < w.heap.size := (Array.getElem?_eq_some_iff.1 hb).1
    have hg : w.heap[b] = .cells c ty (0, 0) := (Array.getElem?_eq_some_iff.1 hb).2
    unfold World.setCell
    congr 1
    apply Array.ext_getElem?
    intro j
    simp only [Array.getElem?_modify, Array.getElem?_setIfInBounds]
    by_cases e : b = j
    · subst e; simp [hlt, hg]
    · simp [e]
  cases v <;> first | (simp [oneCells] at h1; done) | (simp only [store, Sem.run, hc, hz, hw]; rfl)
theorem run_storeCells {P : Program} {b : Nat} {ty : TypeId} {o : Nat} : ∀ (vs : List Value) (i : Nat) (c : Array Value) (w : World), w.heap[b]? = some (.cells c ty (0, 0)) → o + i + vs.length ≤ c.size → oneCells vs = true →
    ∃ c' : Array Value, (storeCells ⟨b, o, none⟩ vs i).run P w = .ok () { w with heap := w.heap.setIfInBounds b (.cells c' ty (0, 0)) } ∧ c'.toList = c.toList.take (o + i) ++ (vs ++ c.toList.drop (o + i + vs.length))
  | [], i, c, w, hb, hl, h1 => by
    refine ⟨c, ?_, by simp⟩
    simp only [storeCells, Sem.run_pure]
    congr 1
    have hlt : b < w.heap.size := (Array.getElem?_eq_some_iff.1 hb).1
    have hg : w.heap[b] = .cells c ty (0, 0) := (Array.getElem?_eq_some_iff.1 hb).2
    have he : w.heap.setIfInBounds b (.cells c ty (0, 0)) = w.heap := by
      apply Array.ext_getElem?
      intro j
      simp only [Array.getElem?_setIfInBounds]
      by_cases e : b = j
      · subst e; simp [hlt, hg]
      · simp [e]
    rw [he]
  | v :: vs, i, c, w, hb, hl, h1 => by
    have hlt : b < w.heap.size := (Array.getElem?_eq_some_iff.1 hb).1
    have hv : oneCells [v] = true := by cases v <;> simp_all [oneCells]
    have hvs : oneCells vs = true := by cases v <;> simp_all [oneCells]
    simp only [List.length_cons] at hl
    have hr := run_store_one (P := P) (w := w) (b := b) (i := o + i) hb (by omega) hv
    obtain ⟨c', h2, h3⟩ := run_storeCells (P := P) (b := b) (ty := ty) (o := o) vs (i + 1) (c.setIfInBounds (o + i) v) { w with heap := w.heap.setIfInBounds b (.cells (c.setIfInBounds (o + i) v) ty (0, 0)) } (by simp [hlt]) (by simp; omega) hvs
    refine ⟨c', ?_, ?_⟩
    · simp only [storeCells, run_addOff, Sem.run_bind, hr, Result.andThen_ok]
      rw [h2]
      simp
    · rw [h3]
      have hx : (c.setIfInBounds (o + i) v).toList = c.toList.set (o + i) v := by simp
      rw [hx]
      have hlen : o + i < c.toList.length := by simp; omega
      rw [show o + (i + 1) = o + i + 1 from by omega, List.take_succ_eq_append_getElem (by simp; omega)]
      simp only [List.getElem_set_self, List.append_assoc, List.cons_append, List.nil_append, List.length_cons]
      rw [List.take_set_of_le (by omega), List.drop_set_of_lt (by omega), show o + i + 1 + vs.length = o + i + (vs.length + 1) from by omega]
theorem sat_store {w : World} {hp ho : Heap} {b : Nat} {ty : TypeId} {cs cs' : List Value} {rr : List OA} (h : Rem (pt b ty cs) Os rr) (hs : Sat w hp ho Ps Os) (hb : Base C w hp ho) :
    ∃ ho', Sat { w with heap := w.heap.setIfInBounds b (.cells cs'.toArray ty (0, 0)) } hp ho' Ps (pt b ty cs' :: rr) ∧ Base C { w with heap := w.heap.setIfInBounds b (.cells cs'.toArray ty (0, 0)) } hp ho' := by
  obtain ⟨h1, h2, a1, b1, c1, d1, e1⟩ := Sep.rem h hs.os
  change h1 b = _ at d1
  have hbo := a1 _ _ d1
  have hbw := hs.ino _ _ hbo
  have hlt : b < w.heap.size := (Array.getElem?_eq_some_iff.1 hbw).1
  have other : ∀ h : Heap, h.le (hpOf w) → h b = none → h.le (hpOf { w with heap := w.heap.setIfInBounds b (.cells cs'.toArray ty (0, 0)) }) := fun h hl hn x u e => by
    have hx : x ≠ b := fun q => by subst q; rw [hn] at e; cases e
    have := hl _ _ e
    simp only [hpOf] at this ⊢
    rw [Array.getElem?_setIfInBounds_ne (Ne.symm hx)]
    exact this
  have n2 : h2 b = none := by rcases c1 b with q | q; · rw [d1] at q; cases q
                              · exact q
  have np : hp b = none := by rcases hs.dj b with q | q; · exact q
                              · rw [hbo] at q; cases q
  have nf : C.hf b = none := by rcases hb.djo b with q | q; · exact q
                                · rw [hbo] at q; cases q
  have new : (Heap.one b (.cells cs'.toArray ty (0, 0))).le (hpOf { w with heap := w.heap.setIfInBounds b (.cells cs'.toArray ty (0, 0)) }) := Heap.one_le (by simp [hpOf, hlt])
  have dd : (Heap.one b (.cells cs'.toArray ty (0, 0))).dj h2 := Heap.one_dj n2
  refine ⟨(Heap.one b (.cells cs'.toArray ty (0, 0))).add h2, ⟨other hp hs.inp np, Heap.add_le new (other h2 (b1.tr hs.ino) n2), Heap.dj_symm (Heap.add_dj (Heap.one_dj np) (Heap.dj_symm (Heap.dj_le hs.dj (Heap.le_refl _) b1))), hs.ps,
    _, h2, Heap.le_add_left _ _, Heap.le_add_right dd, dd, by simp [pt, Heap.one], e1⟩, hb.hp0, other _ hb.hf nf, hb.djp,
    Heap.dj_symm (Heap.add_dj (Heap.one_dj nf) (Heap.dj_symm (Heap.dj_le hb.djo (Heap.le_refl _) b1))), hb.rest.os, hb.rest.tape, hb.rest.output, hb.rest.drawn, ?_⟩
  have := hb.rest.size
  simpa using this
theorem go_store {tb : TB} (ht : TOk C.P tb) {t : TypeId} {x y : Operand} {i : TI} {b oo : Nat} {ty : TypeId} {v : Value} {cs cs' : List Value} {rr : List OA} (ho : o.op = .store t x y) (hw : wants ops E o = some true)
    (hx : ev E x = some (.pointer (some ⟨b, oo, none⟩))) (hy : ev E y = some v) (hi : lookT tb t = some i) (hd : okDst C.N o.dst = true) (hr : Rem (pt b ty cs) Os rr)
    (hl : Nat.beq (cellsL v).length i.size = true) (h1 : oneCells (cellsL v) = true) (hc : putL oo (cellsL v) cs = some cs')
    (hS : f = true → ∀ w hp ho, Sat w hp ho Ps (pt b ty cs' :: rr) → S w)
    (g : Go C (.ops ops S r :: k) (setE o.dst undef E) Ps (pt b ty cs' :: rr)) : Go C (.ops ops S (.one 0 f o r) :: k) E Ps Os :=
  go_effU Ps (pt b ty cs' :: rr) hw hd (fun a w hp ho' hf hs hb => by
    obtain ⟨h1', _, a1, _, _, d1, _⟩ := Sep.rem hr hs.os
    change h1' b = _ at d1
    have hbw := hs.ino _ _ (a1 _ _ d1)
    obtain ⟨hlen, heq⟩ := putL_eq hc
    obtain ⟨c', hrun, hc'⟩ := run_storeCells (P := C.P) (b := b) (ty := ty) (o := oo) (cellsL v) 0 cs.toArray w hbw (by simpa using hlen) h1
    have : c' = cs'.toArray := by
      apply Array.ext'
      rw [hc', heq]
      simp
    subst this
    obtain ⟨ho2, h2, h3⟩ := sat_store (C := C) (cs' := cs') hr hs hb
    refine ⟨_, hp, ho2, ?_, h2, h3⟩
    have hsz := (ht _ _ hi).size
    have hle := Nat.eq_of_beq_eq_true hl
    simp [execOp, ho, hf.ev hx, hf.ev hy, Instr.storeAt, Instr.sureAddr, storeVar, hsz, cellsL_eq, hle, hrun]) hS g

/-! ### calls -/
def calleeOf (E : Env) (c : Call) : Option (FuncId × List Value) :=
  match c.callee with
  | .value x => match ev E x with
    | some (.func (.func g) first cap) => match evs E c.args.toList with
      | some l => some (g, first.toList ++ (l ++ cap.toList))
      | none => none
    | _ => none
  | _ => none
theorem run_callee {N : NN} {a : Act} (hf : Fits N E a) {c : Call} {g : FuncId} {l : List Value} (ho : o.op = .call c) (h : calleeOf E c = some (g, l)) {P : Program}
    (hfn : ∃ fn, P.funcs[g]? = some fn ∧ (fn.name == "runtime.NumGoroutine") = false ∧ fn.body.isNone = false) (w : World) : (execOp a.eval o).run P w = .ok (.enter g l.toArray) w := by
  obtain ⟨fn, h1, h2, h3⟩ := hfn
  obtain ⟨callee, args, tys⟩ := c
  unfold calleeOf at h
  simp only at h
  split at h
  · rename_i x
    split at h
    · rename_i g' first cap e
      split at h
      · rename_i l' e2
        cases h
        have := evs_eq hf e2
        have hargs : first ++ args.map a.eval ++ cap = (first.toList ++ (l' ++ cap.toList)).toArray := by
          apply Array.ext'
          simp [← this]
        have hcf : (callFunc g (first ++ args.map a.eval ++ cap)).run P w = .ok (.enter g (first ++ args.map a.eval ++ cap)) w := by
          simp only [callFunc, program, bind, Sem.bind, Sem.run, h1, h2, h3]
          simp only [Bool.false_eq_true, if_false]
          rfl
        rw [hargs] at hcf
        simp only [execOp, ho, resolve, hf.ev e, Deferred.ofValue, invoke, Sem.run_bind, Sem.run_pure, Result.andThen_ok, hargs, hcf]
      · cases h
    · cases h
  · cases h
theorem go_call {c : Call} {g : FuncId} {l : List Value} {Ps1 : List PA} {Os1 rr : List OA} {Q : Value → List PA → List OA → Prop} (hsp : Spec C.P g l.toArray Ps1 Os1 Q) (ho : o.op = .call c) (hw : wants ops E o = some true)
    (hc : calleeOf E c = some (g, l)) (hd : okDst C.N o.dst = true) (hP : Subs Ps Ps1) (hO : Takes Os Os1 rr)
    (hS : f = true → ∀ v Ps' Os', Q v Ps' Os' → ∀ w hp ho, Sat w hp ho (Ps' ++ Ps) (Os' ++ rr) → S w)
    (g' : ∀ v Ps' Os', Q v Ps' Os' → Go C (.ops ops S r :: k) (setE o.dst v E) (Ps' ++ Ps) (Os' ++ rr)) : Go C (.ops ops S (.one 0 f o r) :: k) E Ps Os := fun a w hp ho' hf hs hb => by
  show rwp _ _ _ _ _ _ _
  rw [rwp, if_pos (wants_eq hf hw)]
  unfold Oper.wp
  rw [run_callee hf ho hc hsp.fn w]
  obtain ⟨h1, h2, a1, b1, c1, d1, e1⟩ := Sep.takes hO hs.os
  refine (hsp.calls w hp h1 (C.hf.add h2) ⟨hs.inp, a1.tr hs.ino, Heap.dj_le hs.dj (Heap.le_refl _) a1, (hs.ents hP.ents).ps, d1⟩ (Heap.add_le hb.hf (b1.tr hs.ino))
    (Heap.add_dj hb.djp (Heap.dj_symm (Heap.dj_le hs.dj (Heap.le_refl _) b1))) (Heap.add_dj (Heap.dj_le hb.djo (Heap.le_refl _) a1) (Heap.dj_symm c1))).mono ?_
  rintro e w' ⟨v, hp', ho2, Ps', Os', rfl, hq, hs', hle, hfl, djp, djo, hrest⟩
  have dfo : C.hf.dj h2 := Heap.dj_le hb.djo (Heap.le_refl _) b1
  have l2 : h2.le (C.hf.add h2) := Heap.le_add_right dfo
  have dA : ho2.dj h2 := Heap.dj_symm (Heap.dj_le djo l2 (Heap.le_refl _))
  have dB : hp'.dj h2 := Heap.dj_symm (Heap.dj_le djp l2 (Heap.le_refl _))
  have sat : Sat w' hp' (ho2.add h2) (Ps' ++ Ps) (Os' ++ rr) := ⟨hs'.inp, Heap.add_le hs'.ino (l2.tr hfl), Heap.dj_symm (Heap.add_dj (Heap.dj_symm hs'.dj) (Heap.dj_symm dB)),
    fun p hp0 => by
      rcases List.mem_append.1 hp0 with q | q
      · exact hs'.ps p q
      · exact p.up hle (hs.ps p q), Sep.app (Heap.le_add_left _ _) (Heap.le_add_right dA) dA hs'.os (Sep.up hle e1)⟩
  have base : Base C w' hp' (ho2.add h2) := ⟨hb.hp0.tr hle, (Heap.le_add_left _ _).tr hfl, Heap.dj_le djp (Heap.le_add_left _ _) (Heap.le_refl _),
    Heap.dj_symm (Heap.add_dj (Heap.dj_symm (Heap.dj_le djo (Heap.le_add_left _ _) (Heap.le_refl _))) (Heap.dj_symm dfo)), hb.rest.trans hrest⟩
  exact ⟨fun e => hS e v Ps' Os' hq w' hp' _ sat, g' v Ps' Os' hq _ w' hp' _ (hf.put hd v) sat base⟩
end
end Go.Proofs.Ytdkfpgdfjnaciaa.SL
