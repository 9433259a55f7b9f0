/- The engine's core: heaps, assertions, the judgement 'Go' over what is left to be done, and the rules for control. -/
import Derived.Orders
import Derived.KernelRfl
import Derived.Tactics
import Derived.Below
import Derived.Laws.World
import Derived.WalkMore
import Derived.OrdersHeld
import Derived.Deep.LoopGhost
import Derived.Scope
import Derived.CallsIn
import Derived.ControlIn
import Derived.OrdersIn
import Derived.TacticsIn
import Derived.RangeFuncIn
import Derived.RangeFuncCalls
import Derived.RangeFuncLeaves
import Derived.Sort.LoopGhostIn
set_option linter.unusedVariables false
set_option linter.unusedSimpArgs false
namespace Go.Proofs.Ytdkfpgdfjnaciaa.SL

/-! ### heaps -/
abbrev Heap := Nat → Option Obj
def Heap.le (h h' : Heap) : Prop := ∀ b o, h b = some o → h' b = some o
def Heap.dj (h h' : Heap) : Prop := ∀ b, h b = none ∨ h' b = none
def Heap.add (h h' : Heap) : Heap := fun b => (h b).or (h' b)
def Heap.nil : Heap := fun _ => none
def Heap.one (b : Nat) (o : Obj) : Heap := fun k => if k = b then some o else none
def hpOf (w : World) : Heap := fun b => w.heap[b]?

theorem Heap.le_refl (h : Heap) : h.le h := fun _ _ e => e
theorem Heap.le.tr {a b c : Heap} (h : a.le b) (k : b.le c) : a.le c := fun x o e => k x o (h x o e)
theorem Heap.dj_symm {a b : Heap} (h : a.dj b) : b.dj a := fun x => (h x).symm
theorem Heap.dj_le {a b a' b' : Heap} (h : a.dj b) (ha : a'.le a) (hb : b'.le b) : a'.dj b' := fun x => by
  rcases h x with e | e
  · left; cases e' : a' x with
    | none => rfl
    | some o => rw [ha x o e'] at e; cases e
  · right; cases e' : b' x with
    | none => rfl
    | some o => rw [hb x o e'] at e; cases e
theorem Heap.le_add_left (a b : Heap) : a.le (a.add b) := fun x o e => by simp [Heap.add, e]
theorem Heap.le_add_right {a b : Heap} (h : a.dj b) : b.le (a.add b) := fun x o e => by
  rcases h x with k | k
  · simp [Heap.add, k, e]
  · rw [k] at e; cases e
theorem Heap.add_le {a b c : Heap} (ha : a.le c) (hb : b.le c) : (a.add b).le c := fun x o e => by
  unfold Heap.add at e
  cases k : a x with
  | none => rw [k] at e; exact hb x o (by simpa using e)
  | some u => rw [k] at e; simp at e; subst e; exact ha x u k
theorem Heap.add_dj {a b c : Heap} (ha : a.dj c) (hb : b.dj c) : (a.add b).dj c := fun x => by
  rcases ha x with k | k
  · rcases hb x with m | m
    · left; simp [Heap.add, k, m]
    · exact .inr m
  · exact .inr k
theorem Heap.one_le {b : Nat} {o : Obj} {h : Heap} (e : h b = some o) : (Heap.one b o).le h := fun x u k => by
  unfold Heap.one at k
  split at k
  · rename_i hx; subst hx; cases k; exact e
  · cases k
theorem Heap.one_dj {b : Nat} {o : Obj} {h : Heap} (e : h b = none) : (Heap.one b o).dj h := fun x => by
  unfold Heap.one
  by_cases hx : x = b
  · subst hx; exact .inr e
  · left; simp [hx]
theorem Heap.nil_dj (h : Heap) : Heap.nil.dj h := fun _ => .inl rfl
theorem Heap.nil_le (h : Heap) : Heap.nil.le h := fun _ _ e => by cases e

/-! ### assertions -/
structure PA where
  p : Heap → Prop
  up : ∀ {h h' : Heap}, h.le h' → p h → p h'
structure OA where
  p : Heap → Heap → Prop
  up : ∀ {hp hp' ho : Heap}, hp.le hp' → p hp ho → p hp' ho
def Sep (hp : Heap) : List OA → Heap → Prop
  | [], _ => True
  | A :: As, ho => ∃ h1 h2 : Heap, h1.le ho ∧ h2.le ho ∧ h1.dj h2 ∧ A.p hp h1 ∧ Sep hp As h2
theorem Sep.up {hp hp' : Heap} (h : hp.le hp') : ∀ {Os : List OA} {ho : Heap}, Sep hp Os ho → Sep hp' Os ho
  | [], _, _ => trivial
  | A :: _, _, ⟨h1, h2, a, b, c, d, e⟩ => ⟨h1, h2, a, b, c, A.up h d, Sep.up h e⟩
theorem Sep.mono {hp : Heap} : ∀ {Os : List OA} {ho ho' : Heap}, ho.le ho' → Sep hp Os ho → Sep hp Os ho'
  | [], _, _, _, _ => trivial
  | _ :: _, _, _, hl, ⟨h1, h2, a, b, c, d, e⟩ => ⟨h1, h2, a.tr hl, b.tr hl, c, d, e⟩

/-- 'a' taken out of a list; what is left. -/
inductive Rem {α : Type} : α → List α → List α → Prop where
  | here {a : α} {l : List α} : Rem a (a :: l) l
  | there {a b : α} {l r : List α} : Rem a l r → Rem a (b :: l) (b :: r)
inductive Takes {α : Type} : List α → List α → List α → Prop where
  | nil {l : List α} : Takes l [] l
  | cons {a : α} {l l1 need rest : List α} : Rem a l l1 → Takes l1 need rest → Takes l (a :: need) rest
theorem Sep.rem {hp : Heap} {A : OA} {Os r : List OA} (hr : Rem A Os r) : ∀ {ho : Heap}, Sep hp Os ho → ∃ h1 h2 : Heap, h1.le ho ∧ h2.le ho ∧ h1.dj h2 ∧ A.p hp h1 ∧ Sep hp r h2 := by
  induction hr with
  | here => exact fun h => h
  | there _ ih =>
    rintro ho ⟨g1, g2, a, b, c, d, e⟩
    obtain ⟨k1, k2, a', b', c', d', e'⟩ := ih e
    exact ⟨k1, g1.add k2, a'.tr b, Heap.add_le a (b'.tr b),
      Heap.dj_symm (Heap.add_dj (Heap.dj_le c (Heap.le_refl _) a') (Heap.dj_symm c')), d', g1, k2, Heap.le_add_left _ _, Heap.le_add_right (Heap.dj_le c (Heap.le_refl _) b'), Heap.dj_le c (Heap.le_refl _) b', d, e'⟩
theorem Sep.app {hp : Heap} : ∀ {As Bs : List OA} {ho h1 h2 : Heap}, h1.le ho → h2.le ho → h1.dj h2 → Sep hp As h1 → Sep hp Bs h2 → Sep hp (As ++ Bs) ho
  | [], _, _, _, _, _, hl, _, _, hb => Sep.mono hl hb
  | A :: As, Bs, ho, h1, h2, l1, l2, hd, ⟨g1, g2, a, b, c, d, e⟩, hb =>
    ⟨g1, g2.add h2, a.tr l1, Heap.add_le (b.tr l1) l2, Heap.dj_symm (Heap.add_dj (Heap.dj_symm c) (Heap.dj_symm (Heap.dj_le hd a (Heap.le_refl _)))), d,
      Sep.app (Heap.le_add_left _ _) (Heap.le_add_right (Heap.dj_le hd b (Heap.le_refl _))) (Heap.dj_le hd b (Heap.le_refl _)) e hb⟩
theorem Sep.takes {hp : Heap} {Os need rest : List OA} (ht : Takes Os need rest) : ∀ {ho : Heap}, Sep hp Os ho → ∃ h1 h2 : Heap, h1.le ho ∧ h2.le ho ∧ h1.dj h2 ∧ Sep hp need h1 ∧ Sep hp rest h2 := by
  induction ht with
  | nil => exact fun {ho} h => ⟨Heap.nil, ho, Heap.nil_le _, Heap.le_refl _, Heap.nil_dj _, trivial, h⟩
  | cons hr _ ih =>
    intro ho h
    obtain ⟨g1, g2, a, b, c, d, e⟩ := Sep.rem hr h
    obtain ⟨k1, k2, a', b', c', d', e'⟩ := ih e
    exact ⟨g1.add k1, k2, Heap.add_le a (a'.tr b), b'.tr b, Heap.add_dj (Heap.dj_le c (Heap.le_refl _) b') c',
      ⟨g1, k1, Heap.le_add_left _ _, Heap.le_add_right (Heap.dj_le c (Heap.le_refl _) a'), Heap.dj_le c (Heap.le_refl _) a', d, d'⟩, e'⟩

structure Sat (w : World) (hp ho : Heap) (Ps : List PA) (Os : List OA) : Prop where
  inp : hp.le (hpOf w)
  ino : ho.le (hpOf w)
  dj : hp.dj ho
  ps : ∀ p, p ∈ Ps → p.p hp
  os : Sep hp Os ho
structure Rest (w w' : World) : Prop where
  os : w'.os = w.os
  tape : w'.tape = w.tape
  output : w'.output = w.output
  drawn : w.drawn ≤ w'.drawn
  size : w.heap.size ≤ w'.heap.size
theorem Rest.refl (w : World) : Rest w w := ⟨rfl, rfl, rfl, Nat.le_refl _, Nat.le_refl _⟩
theorem Rest.trans {a b c : World} (h : Rest a b) (k : Rest b c) : Rest a c := ⟨k.os.trans h.os, k.tape.trans h.tape, k.output.trans h.output, Nat.le_trans h.drawn k.drawn, Nat.le_trans h.size k.size⟩

/-- What a call of f comes to: with what it needs of memory it returns, and leaves alone whatever else there is. -/
structure Spec (P : Program) (f : FuncId) (args : Array Value) (Ps : List PA) (Os : List OA) (Q : Value → List PA → List OA → Prop) : Prop where
  fn : ∃ fn, P.funcs[f]? = some fn ∧ (fn.name == "runtime.NumGoroutine") = false ∧ fn.body.isNone = false
  calls : ∀ (w : World) (hp ho hf : Heap), Sat w hp ho Ps Os → hf.le (hpOf w) → hf.dj hp → hf.dj ho →
    Calls P f args w fun e w' => ∃ v hp' ho' Ps' Os', e = .returned v ∧ Q v Ps' Os' ∧ Sat w' hp' ho' Ps' Os' ∧ hp.le hp' ∧ hf.le (hpOf w') ∧ hf.dj hp' ∧ hf.dj ho' ∧ Rest w w'

/-! ### the state of a walk -/
abbrev Env := List (Nat × Value)
def look : Env → Nat → Option Value
  | [], _ => none
  | (k, v) :: r, d => cond (Nat.beq k d) (some v) (look r d)
/-- A frame's shape: how many slots; what it has deferred. -/
structure NN where
  n : Nat
  ds : List Deferred
structure Fits (N : NN) (E : Env) (a : Act) : Prop where
  size : a.tmps.size = N.n
  dfs : a.defers = N.ds
  at_ : ∀ d v, look E d = some v → a.tmps[d]? = some v
def ev (E : Env) : Operand → Option Value
  | .tmp t => look E t
  | .const v => some v
  | .global g => some (.pointer (some ⟨g, 0, none⟩))
  | .func f => some (.func (.func f) #[] #[])
theorem Fits.ev {N : NN} {E : Env} {a : Act} (h : Fits N E a) {x : Operand} {v : Value} (e : SL.ev E x = some v) : a.eval x = v := by
  cases x with
  | tmp t => have := h.at_ _ _ e; simp [Act.eval, Array.getD_eq_getD_getElem?, this]
  | const u => simp [SL.ev] at e; simp [Act.eval, e]
  | global g => simp [SL.ev] at e; simp [Act.eval, e]
  | func f => simp [SL.ev] at e; simp [Act.eval, e]
def setE : Option Tmp → Value → Env → Env
  | some d, v, E => (d, v) :: E
  | none, _, E => E
def okDst (N : NN) : Option Tmp → Bool
  | some d => Nat.blt d N.n
  | none => true
theorem Fits.put {N : NN} {E : Env} {a : Act} (h : Fits N E a) {d : Option Tmp} (hd : okDst N d = true) (v : Value) : Fits N (setE d v E) (a.put d v) := by
  cases d with
  | none => exact h
  | some d =>
    have hd' : d < N.n := Nat.le_of_ble_eq_true hd
    refine ⟨by simp [Act.put, h.size], h.dfs, fun k u e => ?_⟩
    simp only [setE, look] at e
    simp only [Act.put]
    by_cases hk : d = k
    · subst hk
      have hb : Nat.beq d d = true := Nat.beq_refl d
      rw [hb] at e
      simp at e
      subst e
      simp [h.size, hd']
    · have : Nat.beq d k = false := by
        cases hb : Nat.beq d k with
        | false => rfl
        | true => exact absurd (Nat.eq_of_beq_eq_true hb) hk
      rw [this] at e
      rw [Array.getElem?_setIfInBounds_ne hk]
      exact h.at_ _ _ e
def LookAll (E : Env) : Env → Prop
  | [] => True
  | (d, v) :: r => look E d = some v ∧ LookAll E r
theorem LookAll.look {E : Env} : ∀ {E' : Env}, LookAll E E' → ∀ d v, look E' d = some v → look E d = some v
  | [], _, _, _, e => by cases e
  | (k, u) :: r, ⟨h1, h2⟩, d, v, e => by
    simp only [SL.look] at e
    cases hb : Nat.beq k d with
    | true => rw [hb] at e; simp at e; subst e; rw [← Nat.eq_of_beq_eq_true hb]; exact h1
    | false => rw [hb] at e; exact h2.look d v e
theorem Fits.less {N : NN} {E E' : Env} {a : Act} (h : Fits N E a) (hl : LookAll E E') : Fits N E' a := ⟨h.size, h.dfs, fun d v e => h.at_ d v (hl.look d v e)⟩

/-! ### regions: a list of steps; a free one may be taken first -/
/-- What is to come of a region: a step; either of two. -/
inductive Pl where
  | nil
  | one (kd : Nat) (flag : Bool) (o : Oper) (r : Pl)
  | two (a b : Pl)
  | yld (o : Oper) (r : Pl)
def rwp (P : Program) (ops : Array Oper) (Q : Exit → Act → World → Prop) (S : World → Prop) : Pl → Act → World → Prop
  | .nil, a, w => Q .normal a w
  | .two x y, a, w => rwp P ops Q S x a w ∧ rwp P ops Q S y a w
  | .yld o r, a, w => if Region.wanted o (yielded ops a.tmps) then o.wpIn Fence.wide 0 P a w (fun a' w' => rwp P ops Q S r a' w') Q else rwp P ops Q S r (a.put o.dst undef) w
  | .one 0 f o r, a, w =>
    if Region.wanted o (yielded ops a.tmps) then o.wp P a w (fun a' w' => (f = true → S w') ∧ rwp P ops Q S r a' w') Q else (f = true → S w) ∧ rwp P ops Q S r (a.put o.dst undef) w
  | .one 1 _ o r, a, w => ∃ v, Yields P ops o v a ∧ rwp P ops Q S r (a.put o.dst v) w
  | .one (_ + 2) _ o r, a, w => S w ∧ ∃ v, YieldsIf P ops S o v a ∧ rwp P ops Q S r (a.put o.dst v) w

/-! ### what is left to be done -/
inductive It where
  | code (c : Code)
  | blk (id : Nat)
  | ops (ops : Array Oper) (S : World → Prop) (l : Pl)
  | back (B : Act → World → Prop)
/-- Where the code runs: a function's frame, or a round's of the loop l. -/
def fen : Option Nat → Fence
  | none => Fence.wide
  | some l => Fence.wide.inRound l
def den (ro : Option Nat) (P : Program) (R : Exit → Act → World → Prop) : List It → Exit → Act → World → Prop
  | [], e => R e
  | .code c :: k, .normal => fun a w => c.wpIn (fen ro) 0 P (den ro P R k) a w
  | .ops ops S l :: k, .normal => fun a w => rwp P ops (den ro P R k) S l a w
  | .back B :: _, .normal => B
  | .blk id :: k, .exit id' => cond (Nat.beq id' id) (den ro P R k .normal) (den ro P R k (.exit id'))
  | _ :: k, e => den ro P R k e

structure Ctx where
  P : Program
  fn : Func
  N : NN
  ro : Option Nat
  w0 : World
  hp0 : Heap
  hf : Heap
  Q : Value → List PA → List OA → Prop
  fin : Exit → Act → World → Prop
  pan : ∀ c a w, ¬ fin (.panic c) a w
  out : ∀ a w, ¬ fin .outgrown a w
structure Base (C : Ctx) (w : World) (hp ho : Heap) : Prop where
  hp0 : C.hp0.le hp
  hf : C.hf.le (hpOf w)
  djp : C.hf.dj hp
  djo : C.hf.dj ho
  rest : Rest C.w0 w
def endR (w0 : World) (hp0 hf : Heap) (Q : Value → List PA → List OA → Prop) : Ending → World → Prop := fun e w' =>
  ∃ v hp' ho' Ps' Os', e = .returned v ∧ Q v Ps' Os' ∧ Sat w' hp' ho' Ps' Os' ∧ hp0.le hp' ∧ hf.le (hpOf w') ∧ hf.dj hp' ∧ hf.dj ho' ∧ Rest w0 w'
/-- How a function's body may end. -/
def finF (P : Program) (fn : Func) (R : Ending → World → Prop) : Exit → Act → World → Prop
  | .normal, a, w => LeavesInM Fence.wide 0 P fn a.tmps R a.defers .returning w
  | .ret, a, w => LeavesInM Fence.wide 0 P fn a.tmps R a.defers .returning w
  | _, _, _ => False
def Ctx.den (C : Ctx) : List It → Exit → Act → World → Prop := SL.den C.ro C.P C.fin
def Go (C : Ctx) (k : List It) (E : Env) (Ps : List PA) (Os : List OA) : Prop :=
  ∀ (a : Act) (w : World) (hp ho : Heap), Fits C.N E a → Sat w hp ho Ps Os → Base C w hp ho → C.den k .normal a w

section
variable {C : Ctx} {k : List It} {E : Env} {Ps : List PA} {Os : List OA}

theorem go_env (E' : Env) (h : LookAll E E') (g : Go C k E' Ps Os) : Go C k E Ps Os := fun a w hp ho hf hs hb => g a w hp ho (hf.less h) hs hb
theorem go_skip (g : Go C k E Ps Os) : Go C (.code .skip :: k) E Ps Os := fun a w hp ho hf hs hb => wpIn_skip (g a w hp ho hf hs hb)
theorem go_label {l : Nat} (g : Go C k E Ps Os) : Go C (.code (.label l) :: k) E Ps Os := fun a w hp ho hf hs hb => wpIn_label (g a w hp ho hf hs hb)
theorem go_blk {id : Nat} (g : Go C k E Ps Os) : Go C (.blk id :: k) E Ps Os := g
theorem go_nil {ops : Array Oper} {S : World → Prop} (g : Go C k E Ps Os) : Go C (.ops ops S .nil :: k) E Ps Os := g
theorem go_two {ops : Array Oper} {S : World → Prop} {x y : Pl} (g1 : Go C (.ops ops S x :: k) E Ps Os) (g2 : Go C (.ops ops S y :: k) E Ps Os) : Go C (.ops ops S (.two x y) :: k) E Ps Os := fun a w hp ho hf hs hb => ⟨g1 a w hp ho hf hs hb, g2 a w hp ho hf hs hb⟩
theorem go_seq {x y : Code} (g : Go C (.code x :: .code y :: k) E Ps Os) : Go C (.code (.seq x y) :: k) E Ps Os := fun a w hp ho hf hs hb =>
  wpIn_seq (wpIn_mono (g a w hp ho hf hs hb) fun e a' w' q => by cases e <;> exact q)
theorem go_block {id : Nat} {c : Code} (g : Go C (.code c :: .blk id :: k) E Ps Os) : Go C (.code (.block id c) :: k) E Ps Os := fun a w hp ho hf hs hb =>
  wpIn_block (wpIn_mono (g a w hp ho hf hs hb) fun e a' w' q => by
    cases e with
    | exit i =>
      simp only [Exit.inBlock]
      replace q : (cond (Nat.beq i id) (den C.ro C.P C.fin k .normal) (den C.ro C.P C.fin k (.exit i))) a' w' := q
      cases hb : Nat.beq i id with
      | true => rw [hb] at q; rw [if_pos (Nat.eq_of_beq_eq_true hb)]; exact q
      | false => rw [hb] at q; rw [if_neg (fun h => by subst h; rw [Nat.beq_refl] at hb; cases hb)]; exact q
    | _ => exact q)
def popTo (id : Nat) : List It → Option (List It)
  | [] => none
  | .blk i :: k => cond (Nat.beq id i) (some k) (popTo id k)
  | _ :: k => popTo id k
theorem den_exit {ro : Option Nat} {P : Program} {R : Exit → Act → World → Prop} {id : Nat} : ∀ {k k' : List It}, popTo id k = some k' → den ro P R k (.exit id) = den ro P R k' .normal
  | [], _, h => by cases h
  | .blk i :: k, k', h => by
    simp only [popTo] at h
    simp only [den]
    cases hb : Nat.beq id i with
    | true => rw [hb] at h; simp at h; subst h; rfl
    | false => rw [hb] at h; exact den_exit (k := k) h
  | .code _ :: k, k', h => den_exit (k := k) h
  | .ops _ _ _ :: k, k', h => den_exit (k := k) h
  | .back _ :: k, k', h => den_exit (k := k) h
theorem go_exit {id : Nat} {k' : List It} (h : popTo id k = some k') (g : Go C k' E Ps Os) : Go C (.code (.exit id) :: k) E Ps Os := fun a w hp ho hf hs hb =>
  wpIn_exit (by show C.den k (.exit id) a w; unfold Ctx.den; rw [den_exit h]; exact g a w hp ho hf hs hb)
theorem den_ret {ro : Option Nat} {P : Program} {R : Exit → Act → World → Prop} : ∀ (k : List It), den ro P R k .ret = R .ret
  | [] => rfl
  | .blk _ :: k => den_ret k
  | .code _ :: k => den_ret k
  | .ops _ _ _ :: k => den_ret k
  | .back _ :: k => den_ret k
theorem den_panic {ro : Option Nat} {P : Program} {R : Exit → Act → World → Prop} (c : List PanicEntry) : ∀ (k : List It), den ro P R k (.panic c) = R (.panic c)
  | [] => rfl
  | .blk _ :: k => den_panic c k
  | .code _ :: k => den_panic c k
  | .ops _ _ _ :: k => den_panic c k
  | .back _ :: k => den_panic c k
theorem den_out {ro : Option Nat} {P : Program} {R : Exit → Act → World → Prop} : ∀ (k : List It), den ro P R k .outgrown = R .outgrown
  | [] => rfl
  | .blk _ :: k => den_out k
  | .code _ :: k => den_out k
  | .ops _ _ _ :: k => den_out k
  | .back _ :: k => den_out k
theorem den_no (C : Ctx) (k : List It) : ¬ LetsOut (C.den k) := fun ⟨a, w, h⟩ => by
  unfold Ctx.den at h
  rw [den_out] at h
  exact C.out a w h
theorem go_cond {c : Operand} {x y : Code} {b : Bool} (h : ev E c = some (.bool b)) (g1 : b = true → Go C (.code x :: k) E Ps Os) (g2 : b = false → Go C (.code y :: k) E Ps Os) :
    Go C (.code (.cond c x y) :: k) E Ps Os := fun a w hp ho hf hs hb =>
  wpIn_cond_split (hf.ev h) (fun e => g1 e a w hp ho hf hs hb) (fun e => g2 e a w hp ho hf hs hb)
theorem go_cond_t {c : Operand} {x y : Code} (h : ev E c = some (.bool true)) (g1 : Go C (.code x :: k) E Ps Os) : Go C (.code (.cond c x y) :: k) E Ps Os :=
  go_cond h (fun _ => g1) (fun e => by cases e)
theorem go_cond_f {c : Operand} {x y : Code} (h : ev E c = some (.bool false)) (g2 : Go C (.code y :: k) E Ps Os) : Go C (.code (.cond c x y) :: k) E Ps Os :=
  go_cond h (fun e => by cases e) (fun _ => g2)

/-- A slot's value, said in another way. -/
theorem Fits.again {N : NN} {E : Env} {a : Act} (h : Fits N E a) {d : Nat} {v : Value} (e : look E d = some v) : Fits N ((d, v) :: E) a :=
  ⟨h.size, h.dfs, fun k u q => by
    simp only [look] at q
    cases hb : Nat.beq d k with
    | true => rw [hb] at q; simp at q; subst q; rw [← Nat.eq_of_beq_eq_true hb]; exact h.at_ _ _ e
    | false => rw [hb] at q; exact h.at_ _ _ q⟩
theorem go_condD {c : Operand} {x y : Code} {φ : Prop} {i : Decidable φ} (h : ev E c = some (.bool (@decide φ i))) (g1 : φ → Go C (.code x :: k) E Ps Os) (g2 : ¬φ → Go C (.code y :: k) E Ps Os) :
    Go C (.code (.cond c x y) :: k) E Ps Os := go_cond h (fun e => g1 (of_decide_eq_true e)) (fun e => g2 (of_decide_eq_false e))
theorem go_condN {c : Operand} {x y : Code} {φ : Prop} {i : Decidable φ} (h : ev E c = some (.bool (!@decide φ i))) (g1 : ¬φ → Go C (.code x :: k) E Ps Os) (g2 : φ → Go C (.code y :: k) E Ps Os) :
    Go C (.code (.cond c x y) :: k) E Ps Os := go_cond h (fun e => g1 (of_decide_eq_false (by simpa using e))) (fun e => g2 (of_decide_eq_true (by simpa using e)))
theorem go_re (d : Nat) (v : Value) (h : look E d = some v) (g : Go C k ((d, v) :: E) Ps Os) : Go C k E Ps Os := fun a w hp ho hf hs hb => g a w hp ho (hf.again h) hs hb
/-- A condition of a slot becomes known. -/
theorem go_known (d : Nat) {b : Bool} (h : look E d = some (.bool b)) (g1 : b = true → Go C k ((d, .bool true) :: E) Ps Os) (g2 : b = false → Go C k ((d, .bool false) :: E) Ps Os) : Go C k E Ps Os := by
  cases b with
  | true => exact go_re d _ h (g1 rfl)
  | false => exact go_re d _ h (g2 rfl)

/-! ### what is known of memory, said in another way -/
/-- What is said of memory is among what is known. -/
inductive Subs (Ps : List PA) : List PA → Prop where
  | nil : Subs Ps []
  | cons {q : PA} {l : List PA} : q ∈ Ps → Subs Ps l → Subs Ps (q :: l)
theorem Subs.mem {Ps l : List PA} (h : Subs Ps l) : ∀ q, q ∈ l → q ∈ Ps := by
  induction h with
  | nil => exact fun _ h => nomatch h
  | cons a _ ih =>
    intro q hq
    rcases List.mem_cons.1 hq with rfl | hq
    · exact a
    · exact ih q hq
def Ent (Ps : List PA) (q : PA) : Prop := ∀ h : Heap, (∀ p, p ∈ Ps → p.p h) → q.p h
theorem Ent.of_mem {q : PA} (h : q ∈ Ps) : Ent Ps q := fun _ a => a _ h
theorem Sat.ents {w : World} {hp ho : Heap} (h : Sat w hp ho Ps Os) {Ps' : List PA} (e : ∀ q, q ∈ Ps' → Ent Ps q) : Sat w hp ho Ps' Os := ⟨h.inp, h.ino, h.dj, fun q hq => e q hq hp h.ps, h.os⟩
theorem forall_cons {α : Type} {p : α → Prop} {a : α} {l : List α} (h : p a) (t : ∀ x, x ∈ l → p x) : ∀ x, x ∈ a :: l → p x := fun x hx => by
  rcases List.mem_cons.1 hx with rfl | hx
  · exact h
  · exact t x hx
theorem Subs.ents {Ps l : List PA} (h : Subs Ps l) : ∀ q, q ∈ l → Ent Ps q := fun q hq => .of_mem (h.mem q hq)
theorem go_ent (q : PA) (h : Ent Ps q) (g : Go C k E (q :: Ps) Os) : Go C k E Ps Os := fun a w hp ho hf hs hb =>
  g a w hp ho hf (hs.ents (forall_cons h fun p hq => .of_mem hq)) hb
theorem go_less (Ps' : List PA) (h : Subs Ps Ps') (g : Go C k E Ps' Os) : Go C k E Ps Os := fun a w hp ho hf hs hb => g a w hp ho hf (hs.ents h.ents) hb
def PA.ex {α : Type} (f : α → PA) : PA := ⟨fun h => ∃ x, (f x).p h, fun hl ⟨x, hx⟩ => ⟨x, (f x).up hl hx⟩⟩
def PA.and (φ : Prop) (q : PA) : PA := ⟨fun h => φ ∧ q.p h, fun hl hx => ⟨hx.1, q.up hl hx.2⟩⟩
def PA.tt : PA := ⟨fun _ => True, fun _ h => h⟩
theorem go_pex {α : Type} {f : α → PA} (g : ∀ x, Go C k E (f x :: Ps) Os) : Go C k E (PA.ex f :: Ps) Os := fun a w hp ho hf hs hb => by
  obtain ⟨x, hx⟩ := hs.ps _ (.head _)
  exact g x a w hp ho hf ⟨hs.inp, hs.ino, hs.dj, forall_cons hx fun p hq => hs.ps p (.tail _ hq), hs.os⟩ hb
theorem go_pand {φ : Prop} {q : PA} (g : φ → Go C k E (q :: Ps) Os) : Go C k E (PA.and φ q :: Ps) Os := fun a w hp ho hf hs hb => by
  obtain ⟨h1, h2⟩ := hs.ps _ (.head _)
  exact g h1 a w hp ho hf ⟨hs.inp, hs.ino, hs.dj, forall_cons h2 fun p hq => hs.ps p (.tail _ hq), hs.os⟩ hb
/-- What follows of the memory at hand (a pure fact). -/
theorem go_fact {φ : Prop} (q : PA) (h : q ∈ Ps) (e : ∀ h, q.p h → φ) (g : φ → Go C k E Ps Os) : Go C k E Ps Os := fun a w hp ho hf hs hb => g (e hp (hs.ps q h)) a w hp ho hf hs hb
theorem go_ofact {φ : Prop} (A : OA) {r : List OA} (h : Rem A Os r) (e : ∀ hp ho, A.p hp ho → φ) (g : φ → Go C k E Ps Os) : Go C k E Ps Os := fun a w hp ho hf hs hb => by
  obtain ⟨_, _, _, _, _, d, _⟩ := Sep.rem h hs.os
  exact g (e _ _ d) a w hp ho hf hs hb
theorem Sep.set {hp : Heap} {A : OA} {Os r : List OA} (hr : Rem A Os r) {ho : Heap} (h : Sep hp Os ho) {Bs : List OA} (hi : ∀ h1, A.p hp h1 → Sep hp Bs h1) : Sep hp (Bs ++ r) ho := by
  obtain ⟨h1, h2, a, b, c, d, e⟩ := Sep.rem hr h
  exact Sep.app a b c (hi h1 d) e
/-- An owned thing said as others. -/
theorem go_imp (A : OA) (Bs : List OA) {r : List OA} (h : Rem A Os r) (hi : ∀ hp h1, A.p hp h1 → Sep hp Bs h1) (g : Go C k E Ps (Bs ++ r)) : Go C k E Ps Os := fun a w hp ho hf hs hb =>
  g a w hp ho hf ⟨hs.inp, hs.ino, hs.dj, hs.ps, hs.os.set h (hi hp)⟩ hb
def OA.ex {α : Type} (f : α → OA) : OA := ⟨fun hp h => ∃ x, (f x).p hp h, fun hl ⟨x, hx⟩ => ⟨x, (f x).up hl hx⟩⟩
def OA.and (φ : Prop) (q : OA) : OA := ⟨fun hp h => φ ∧ q.p hp h, fun hl hx => ⟨hx.1, q.up hl hx.2⟩⟩
def OA.all (l : List OA) : OA := ⟨fun hp h => Sep hp l h, fun hl hx => Sep.up hl hx⟩
theorem go_oex {α : Type} {f : α → OA} {r : List OA} (h : Rem (OA.ex f) Os r) (g : ∀ x, Go C k E Ps (f x :: r)) : Go C k E Ps Os := fun a w hp ho hf hs hb => by
  obtain ⟨h1, h2, i, b, c, ⟨x, d⟩, e⟩ := Sep.rem h hs.os
  exact g x a w hp ho hf ⟨hs.inp, hs.ino, hs.dj, hs.ps, h1, h2, i, b, c, d, e⟩ hb
theorem go_oand {φ : Prop} {q : OA} {r : List OA} (h : Rem (OA.and φ q) Os r) (g : φ → Go C k E Ps (q :: r)) : Go C k E Ps Os := fun a w hp ho hf hs hb => by
  obtain ⟨h1, h2, i, b, c, ⟨x, d⟩, e⟩ := Sep.rem h hs.os
  exact g x a w hp ho hf ⟨hs.inp, hs.ino, hs.dj, hs.ps, h1, h2, i, b, c, d, e⟩ hb
theorem go_oall {l r : List OA} (h : Rem (OA.all l) Os r) (g : Go C k E Ps (l ++ r)) : Go C k E Ps Os := go_imp _ l h (fun _ _ x => x) g
/-- What is owned in another order, or less of it. -/
theorem go_take (Os' : List OA) {r : List OA} (h : Takes Os Os' r) (g : Go C k E Ps Os') : Go C k E Ps Os := fun a w hp ho hf hs hb => by
  obtain ⟨h1, h2, a1, b, c, d, e⟩ := Sep.takes h hs.os
  exact g a w hp ho hf ⟨hs.inp, hs.ino, hs.dj, hs.ps, Sep.mono a1 d⟩ hb
/-- What was owned is henceforth only read. -/
theorem go_freeze (A : OA) (q : PA) {r : List OA} (h : Rem A Os r) (hi : ∀ hp h1 H, hp.le H → h1.le H → A.p hp h1 → q.p H) (g : Go C k E (q :: Ps) r) : Go C k E Ps Os := fun a w hp ho hf hs hb => by
  obtain ⟨h1, h2, i, b, c, d, e⟩ := Sep.rem h hs.os
  have dj1 : hp.dj h1 := Heap.dj_le hs.dj (Heap.le_refl _) i
  refine g a w (hp.add h1) h2 hf ⟨Heap.add_le hs.inp (i.tr hs.ino), b.tr hs.ino, Heap.add_dj (Heap.dj_le hs.dj (Heap.le_refl _) b) c, fun p hq => ?_, Sep.up (Heap.le_add_left _ _) e⟩
    ⟨hb.hp0.tr (Heap.le_add_left _ _), hb.hf, Heap.dj_symm (Heap.add_dj (Heap.dj_symm hb.djp) (Heap.dj_le (Heap.dj_symm hb.djo) i (Heap.le_refl _))), Heap.dj_le hb.djo (Heap.le_refl _) b, hb.rest⟩
  rcases List.mem_cons.1 hq with rfl | hq
  · exact hi hp h1 _ (Heap.le_add_left _ _) (Heap.le_add_right dj1) d
  · exact p.up (Heap.le_add_left _ _) (hs.ps p hq)

/-! ### loops, and ways that meet again -/
def Bk (C : Ctx) {X : Type} (chg : X → Env) (rest : Env) (P' : X → List PA) (O' : X → List OA) (J : X → Prop) (μ : X → Nat) (n : Nat) : Act → World → Prop := fun a w =>
  ∃ y hp ho, Fits C.N (chg y ++ rest) a ∧ Sat w hp ho (P' y) (O' y) ∧ Base C w hp ho ∧ J y ∧ μ y < n
theorem go_loop {X : Type} {c : Code} (chg : X → Env) (rest : Env) (P' : X → List PA) (O' : X → List OA) (J : X → Prop) (μ : X → Nat) (x0 : X) {r : List OA}
    (hE : LookAll E (chg x0 ++ rest)) (hP : Subs Ps (P' x0)) (hO : Takes Os (O' x0) r) (hJ : J x0)
    (round : ∀ x, J x → Go C (.code c :: .back (Bk C chg rest P' O' J μ (μ x)) :: k) (chg x ++ rest) (P' x) (O' x)) :
    Go C (.code (.loop c) :: k) E Ps Os := fun a w hp ho hf hs hb => by
  refine wpIn_loop_ghost (fun n a w => ∃ x hp ho, μ x = n ∧ Fits C.N (chg x ++ rest) a ∧ Sat w hp ho (P' x) (O' x) ∧ Base C w hp ho ∧ J x) (μ x0) ?_ ?_
  · obtain ⟨h1, h2, a1, b, c1, d, e⟩ := Sep.takes hO hs.os
    exact ⟨x0, hp, ho, rfl, hf.less hE, ⟨hs.inp, hs.ino, hs.dj, (hs.ents hP.ents).ps, Sep.mono a1 d⟩, hb, hJ⟩
  · rintro n a' w' ⟨x, hp', ho', rfl, f', s', b', j'⟩
    refine wpIn_mono (round x j' a' w' hp' ho' f' s' b') fun e a2 w2 q => ?_
    cases e with
    | normal =>
      obtain ⟨y, p2, o2, f2, s2, b2, j2, m2⟩ := q
      exact ⟨μ y, m2, y, p2, o2, rfl, f2, s2, b2, j2⟩
    | exit i => exact q
    | goto i => exact q
    | ret => exact q
    | panic c => exact q
    | outgrown => exact q
theorem go_back {X : Type} {chg : X → Env} {rest : Env} {P' : X → List PA} {O' : X → List OA} {J : X → Prop} {μ : X → Nat} {n : Nat} (y : X) {r : List OA}
    (hE : LookAll E (chg y ++ rest)) (hP : Subs Ps (P' y)) (hO : Takes Os (O' y) r) (hJ : J y) (hm : μ y < n) :
    Go C (.back (Bk C chg rest P' O' J μ n) :: k) E Ps Os := fun a w hp ho hf hs hb => by
  obtain ⟨h1, h2, a1, b, c1, d, e⟩ := Sep.takes hO hs.os
  exact ⟨y, hp, ho, hf.less hE, ⟨hs.inp, hs.ino, hs.dj, (hs.ents hP.ents).ps, Sep.mono a1 d⟩, hb, hJ, hm⟩
/-- What is read stays; of what is owned, what is not named stays as it is. -/
theorem go_loop' {X : Type} {c : Code} (chg : X → Env) (rest : Env) (O' : X → List OA) (J : X → Prop) (μ : X → Nat) (x0 : X) {r : List OA}
    (hE : LookAll E (chg x0 ++ rest)) (hO : Takes Os (O' x0) r) (hJ : J x0)
    (round : ∀ x, J x → Go C (.code c :: .back (Bk C chg rest (fun _ => Ps) (fun x => O' x ++ r) J μ (μ x)) :: k) (chg x ++ rest) Ps (O' x ++ r)) :
    Go C (.code (.loop c) :: k) E Ps Os := fun a w hp ho hf hs hb => by
  obtain ⟨h1, h2, a1, b, c1, d, e⟩ := Sep.takes hO hs.os
  exact go_loop (Os := O' x0 ++ r) chg rest (fun _ => Ps) (fun x => O' x ++ r) J μ x0 hE (by
    have : ∀ l : List PA, Subs (l ++ Ps) Ps := fun l => by
      have key : ∀ m : List PA, (∀ q, q ∈ m → q ∈ l ++ Ps) → Subs (l ++ Ps) m := fun m => by
        induction m with
        | nil => exact fun _ => .nil
        | cons q m ih => exact fun h => .cons (h q (.head _)) (ih fun q hq => h q (.tail _ hq))
      exact key Ps fun q hq => List.mem_append_right _ hq
    exact this []) (takes_self _) hJ round a w hp ho hf ⟨hs.inp, hs.ino, hs.dj, hs.ps, Sep.app a1 b c1 d e⟩ hb
where
  takes_self : ∀ l : List OA, Takes l l []
    | [] => .nil
    | _ :: l => .cons .here (takes_self l)
/-- Ways that meet behind 'c'. -/
theorem go_cut {X : Type} {c : Code} (chg : X → Env) (rest : Env) (P' : X → List PA) (O' : X → List OA) (J : X → Prop) (hE : LookAll E rest)
    (first : Go C (.code c :: .back (Bk C chg rest P' O' J (fun _ => 0) 1) :: k) E Ps Os)
    (then_ : ∀ x, J x → Go C k (chg x ++ rest) (P' x) (O' x)) : Go C (.code c :: k) E Ps Os := fun a w hp ho hf hs hb =>
  wpIn_mono (first a w hp ho hf hs hb) fun e a2 w2 q => by
    cases e with
    | normal =>
      obtain ⟨y, p2, o2, f2, s2, b2, j2, m2⟩ := q
      exact then_ y j2 a2 w2 p2 o2 f2 s2 b2
    | exit i => exact q
    | goto i => exact q
    | ret => exact q
    | panic c => exact q
    | outgrown => exact q
theorem go_cut' {X : Type} {c : Code} (chg : X → Env) (rest : Env) (J : X → Prop) (hE : LookAll E rest)
    (first : Go C (.code c :: .back (Bk C chg rest (fun _ => Ps) (fun _ => Os) J (fun _ => 0) 1) :: k) E Ps Os)
    (then_ : ∀ x, J x → Go C k (chg x ++ rest) Ps Os) : Go C (.code c :: k) E Ps Os := go_cut chg rest _ _ J hE first then_
/-- A number of 64 bits that has not wrapped. -/
theorem wrap_i64 {n : Int} (h1 : -9223372036854775808 ≤ n) (h2 : n ≤ 9223372036854775807) : IntKind.i64.wrap n = n := by
  unfold IntKind.wrap IntKind.signed IntKind.bits
  simp only [Bool.true_and]
  have e1 : ((2 : Int) ^ 64) = 18446744073709551616 := by decide
  have e2 : ((2 : Int) ^ (64 - 1)) = 9223372036854775808 := by decide
  rw [e1, e2]
  split <;> simp at * <;> omega
theorem go_i64 (d : Nat) {n : Int} (h : look E d = some (.int .i64 (IntKind.i64.wrap n))) (h1 : -9223372036854775808 ≤ n) (h2 : n ≤ 9223372036854775807) (g : Go C k ((d, .int .i64 n) :: E) Ps Os) : Go C k E Ps Os :=
  go_re d _ (by rw [h, wrap_i64 h1 h2]) g
theorem den_goto {ro : Option Nat} {P : Program} {R : Exit → Act → World → Prop} (l : Nat) : ∀ (k : List It), den ro P R k (.goto l) = R (.goto l)
  | [] => rfl
  | .blk _ :: k => den_goto l k
  | .code _ :: k => den_goto l k
  | .ops _ _ _ :: k => den_goto l k
  | .back _ :: k => den_goto l k
theorem go_scope {c : Code} (hr : C.ro = none) (hg : ∀ l a w, ¬ C.fin (.goto l) a w) (g : Go C (.code c :: k) E Ps Os) : Go C (.code (.scope c) :: k) E Ps Os := by
  obtain ⟨P, fn, N, ro, w0, hp0, hf, Q, fin, pan, out⟩ := C
  cases hr
  intro a w hp ho hf hs hb
  have h : c.wpIn Fence.wide 0 P (den none P fin k) a w := g a w hp ho hf hs hb
  refine wpIn_wide.2 (wp_scope_straight (wp_mono (wpIn_wide.1 h) fun e a2 w2 q => ?_))
  cases e with
  | goto l => rw [den_goto] at q; exact absurd q (hg l a2 w2)
  | _ => exact q

/-! ### the end -/
def Reads (C : Ctx) (Ps : List PA) (Os : List OA) (t : TypeId) (ad : Addr) (v : Value) : Prop :=
  ∀ (w : World) (hp ho : Heap), Sat w hp ho Ps Os → (loadVar t ad).run C.P w = .ok v w
inductive Res (C : Ctx) (E : Env) (Ps : List PA) (Os : List OA) : ResultVar → Value → Prop where
  | tmp {t : Tmp} {v : Value} : look E t = some v → Res C E Ps Os (.tmp t) v
  | cell {a : Tmp} {t : TypeId} {ad : Addr} {v : Value} : look E a = some (.pointer (some ad)) → Reads C Ps Os t ad v → Res C E Ps Os (.cell a t) v
theorem Fits.getD {N : NN} {a : Act} (hf : Fits N E a) {t : Tmp} {v : Value} (e : look E t = some v) : a.tmps.getD t undef = v := by
  have := hf.at_ _ _ e
  simp [Array.getD_eq_getD_getElem?, this]
def AtEnd (C : Ctx) : Prop := C.fin = finF C.P C.fn (endR C.w0 C.hp0 C.hf C.Q) ∧ C.N.ds = []
theorem go_ret0 (h0 : AtEnd C) {v : Value} {Ps' : List PA} {Os' r : List OA} (hv : ∀ (a : Act) (w : World) (hp ho : Heap), Fits C.N E a → Sat w hp ho Ps Os → (results C.fn a.tmps).run C.P w = .ok v w)
    (q : C.Q v Ps' Os') (hP : Subs Ps Ps') (hO : Takes Os Os' r) {e : Exit} (he : e = .ret ∨ e = .normal) {a : Act} {w : World} {hp ho : Heap} (hf : Fits C.N E a) (hs : Sat w hp ho Ps Os) (hb : Base C w hp ho) :
    C.fin e a w := by
  have h : ∃ v, (results C.fn a.tmps).run C.P w = .ok v w ∧ endR C.w0 C.hp0 C.hf C.Q (.returned v) w := by
    obtain ⟨h1, h2, a1, b, c1, d, e⟩ := Sep.takes hO hs.os
    exact ⟨v, hv a w hp ho hf hs, v, hp, ho, Ps', Os', rfl, q, ⟨hs.inp, hs.ino, hs.dj, (hs.ents hP.ents).ps, Sep.mono a1 d⟩, hb.hp0, hb.hf, hb.djp, hb.djo, hb.rest⟩
  have hd : a.defers = [] := hf.dfs.trans h0.2
  rw [h0.1]
  rcases he with rfl | rfl <;> (show LeavesInM _ _ _ _ _ _ _ _ _; rw [hd]; exact h)
theorem go_ret (h0 : AtEnd C) {v : Value} (Ps' : List PA) (Os' : List OA) {r : List OA} (hv : ∀ (a : Act) (w : World) (hp ho : Heap), Fits C.N E a → Sat w hp ho Ps Os → (results C.fn a.tmps).run C.P w = .ok v w)
    (q : C.Q v Ps' Os') (hP : Subs Ps Ps') (hO : Takes Os Os' r) : Go C (.code .ret :: k) E Ps Os := fun a w hp ho hf hs hb =>
  wpIn_ret (by show den C.ro C.P C.fin k .ret a w; rw [den_ret]; exact go_ret0 h0 hv q hP hO (.inl rfl) hf hs hb)
theorem go_end (h0 : AtEnd C) {v : Value} (Ps' : List PA) (Os' : List OA) {r : List OA} (hv : ∀ (a : Act) (w : World) (hp ho : Heap), Fits C.N E a → Sat w hp ho Ps Os → (results C.fn a.tmps).run C.P w = .ok v w)
    (q : C.Q v Ps' Os') (hP : Subs Ps Ps') (hO : Takes Os Os' r) : Go C [] E Ps Os := fun a w hp ho hf hs hb =>
  go_ret0 h0 hv q hP hO (.inr rfl) hf hs hb
theorem res0 (h : C.fn.results = #[]) (a : Act) (w : World) (hp ho : Heap) (hf : Fits C.N E a) (hs : Sat w hp ho Ps Os) : (results C.fn a.tmps).run C.P w = .ok (.tuple #[]) w := by simp [results, h]
theorem res1 {r1 : ResultVar} {v1 : Value} (h : C.fn.results = #[r1]) (h1 : Res C E Ps Os r1 v1) (a : Act) (w : World) (hp ho : Heap) (hf : Fits C.N E a) (hs : Sat w hp ho Ps Os) :
    (results C.fn a.tmps).run C.P w = .ok (v1) w := by
  all_goals rcases h1 with ⟨e1⟩ | ⟨e1, q1⟩ <;> replace e1 := hf.getD e1 <;> (try replace q1 := q1 w hp ho hs)
  all_goals simp_all [results, asAddr]
theorem res2 {r1 r2 : ResultVar} {v1 v2 : Value} (h : C.fn.results = #[r1, r2]) (h1 : Res C E Ps Os r1 v1) (h2 : Res C E Ps Os r2 v2) (a : Act) (w : World) (hp ho : Heap) (hf : Fits C.N E a) (hs : Sat w hp ho Ps Os) :
    (results C.fn a.tmps).run C.P w = .ok (.tuple #[v1, v2]) w := by
  all_goals rcases h1 with ⟨e1⟩ | ⟨e1, q1⟩ <;> replace e1 := hf.getD e1 <;> (try replace q1 := q1 w hp ho hs)
  all_goals rcases h2 with ⟨e2⟩ | ⟨e2, q2⟩ <;> replace e2 := hf.getD e2 <;> (try replace q2 := q2 w hp ho hs)
  all_goals simp_all [results, asAddr]
theorem res3 {r1 r2 r3 : ResultVar} {v1 v2 v3 : Value} (h : C.fn.results = #[r1, r2, r3]) (h1 : Res C E Ps Os r1 v1) (h2 : Res C E Ps Os r2 v2) (h3 : Res C E Ps Os r3 v3) (a : Act) (w : World) (hp ho : Heap) (hf : Fits C.N E a) (hs : Sat w hp ho Ps Os) :
    (results C.fn a.tmps).run C.P w = .ok (.tuple #[v1, v2, v3]) w := by
  all_goals rcases h1 with ⟨e1⟩ | ⟨e1, q1⟩ <;> replace e1 := hf.getD e1 <;> (try replace q1 := q1 w hp ho hs)
  all_goals rcases h2 with ⟨e2⟩ | ⟨e2, q2⟩ <;> replace e2 := hf.getD e2 <;> (try replace q2 := q2 w hp ho hs)
  all_goals rcases h3 with ⟨e3⟩ | ⟨e3, q3⟩ <;> replace e3 := hf.getD e3 <;> (try replace q3 := q3 w hp ho hs)
  all_goals simp_all [results, asAddr]
end

/-! ### a function's beginning -/
def envOf : Nat → List Value → Env
  | _, [] => []
  | n, v :: r => (n, v) :: envOf (n + 1) r
theorem envOf_at : ∀ (l : List Value) (n d : Nat) (v : Value), look (envOf n l) d = some v → n ≤ d ∧ l[d - n]? = some v
  | [], _, _, _, h => by cases h
  | u :: r, n, d, v, h => by
    simp only [envOf, look] at h
    cases hb : Nat.beq n d with
    | true => rw [hb] at h; simp at h; subst h; have := Nat.eq_of_beq_eq_true hb; subst this; simp
    | false =>
      rw [hb] at h
      obtain ⟨h1, h2⟩ := envOf_at r (n + 1) d v h
      refine ⟨by omega, ?_⟩
      rw [show d - n = (d - (n + 1)) + 1 from by omega, List.getElem?_cons_succ]
      exact h2
theorem spec_of {P : Program} {f : FuncId} {fn : Func} {c : Code} {args : List Value} {Ps : List PA} {Os : List OA} {Q : Value → List PA → List OA → Prop} (N : Nat)
    (hf : P.funcs[f]? = some fn) (hb : fn.body = some c) (hn : (fn.name == "runtime.NumGoroutine") = false) (hN : fn.ntmps = N) (hl : args.length ≤ N)
    (g : ∀ w0 hp0 hf0, Go ⟨P, fn, ⟨N, []⟩, none, w0, hp0, hf0, Q, finF P fn (endR w0 hp0 hf0 Q), fun _ _ _ h => h, fun _ _ h => h⟩ [.code c] (envOf 0 args) Ps Os) : Spec P f args.toArray Ps Os Q := by
  refine ⟨⟨fn, hf, hn, by simp [hb]⟩, fun w hp ho hf' hs h1 h2 h3 => ?_⟩
  refine callsIn_wide.1 (callsIn_of_wp_marks (n := 0) hf hb trivial ?_ rfl)
  refine wpIn_mono (Q := finF P fn (endR w hp hf' Q)) ?_ (fun e a w q => by cases e <;> first | exact q | exact False.elim q)
  refine g w hp hf' _ w hp ho ⟨?_, rfl, ?_⟩ hs ⟨Heap.le_refl _, h1, h2, h3, .refl _⟩
  · simp [hN]; omega
  · intro d v e
    obtain ⟨_, h5⟩ := envOf_at args 0 d v e
    have hd : d < args.length := by
      rcases Nat.lt_or_ge d args.length with h | h
      · exact h
      · simp [h] at h5
    simp only [Nat.sub_zero] at h5
    rw [Array.getElem?_append_left (by simpa using hd)]
    simpa using h5
end Go.Proofs.Ytdkfpgdfjnaciaa.SL
