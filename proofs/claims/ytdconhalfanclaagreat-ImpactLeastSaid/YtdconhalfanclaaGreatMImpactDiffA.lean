/- Engine, data and contracts: parts of the proof of ImpactDiff, put together (S0 S1 S2 S3 S4 S5 S6 S7 D0 Tb SR S9 SB SC SD SQ). -/
import Derived.Orders
import Derived.KernelRfl
import Derived.Tactics
import Derived.Below
import Derived.Laws.World
import Derived.WalkMore
import Derived.OrdersHeld
import Derived.Deep.LoopGhost
import Derived.Scope
import Derived.CallsIn
import Derived.ControlIn
import Derived.OrdersIn
import Derived.TacticsIn
import Derived.RangeFuncIn
import Derived.RangeFuncCalls
import Derived.RangeFuncLeaves
import Derived.Sort.LoopGhostIn
import Derived.Laws.Sem
import Derived.Laws.Entries
import Derived.Laws.AppendOwn
import Derived.Laws.Tables
import Derived.Laws.StructEq
import Derived.Laws.BytesString
import Derived.Test.YtdconhalfanclaaGreatProg
import Derived.Lib.Overlaps
set_option linter.unusedVariables false
set_option linter.unusedSimpArgs false
set_option maxHeartbeats 2000000
set_option maxRecDepth 20000
namespace Go.Proofs.YtdconhalfanclaaGreat.SL
abbrev Heap := Nat → Option Obj
def Heap.le (h h' : Heap) : Prop := ∀ b o, h b = some o → h' b = some o
def Heap.dj (h h' : Heap) : Prop := ∀ b, h b = none ∨ h' b = none
def Heap.add (h h' : Heap) : Heap := fun b => (h b).or (h' b)
def Heap.nil : Heap := fun _ => none
def Heap.one (b : Nat) (o : Obj) : Heap := fun k => if k = b then some o else none
def hpOf (w : World) : Heap := fun b => w.heap[b]?
theorem Heap.le_refl (h : Heap) : h.le h := fun _ _ e => e
theorem Heap.le.tr {a b c : Heap} (h : a.le b) (k : b.le c) : a.le c := fun x o e => k x o (h x o e)
theorem Heap.dj_symm {a b : Heap} (h : a.dj b) : b.dj a := fun x => (h x).symm
theorem Heap.dj_le {a b a' b' : Heap} (h : a.dj b) (ha : a'.le a) (hb : b'.le b) : a'.dj b' := fun x => by
  rcases h x with e | e
  · left; cases e' : a' x with
    | none => rfl
    | some o => rw [ha x o e'] at e; cases e
  · right; cases e' : b' x with
    | none => rfl
    | some o => rw [hb x o e'] at e; cases e
theorem Heap.le_add_left (a b : Heap) : a.le (a.add b) := fun x o e => by simp [Heap.add, e]
theorem Heap.le_add_right {a b : Heap} (h : a.dj b) : b.le (a.add b) := fun x o e => by
  rcases h x with k | k
  · simp [Heap.add, k, e]
  · rw [k] at e; cases e
theorem Heap.add_le {a b c : Heap} (ha : a.le c) (hb : b.le c) : (a.add b).le c := fun x o e => by
  unfold Heap.add at e
  cases k : a x with
  | none => rw [k] at e; exact hb x o (by simpa using e)
  | some u => rw [k] at e; simp at e; subst e; exact ha x u k
theorem Heap.add_dj {a b c : Heap} (ha : a.dj c) (hb : b.dj c) : (a.add b).dj c := fun x => by
  rcases ha x with k | k
  · rcases hb x with m | m
    · left; simp [Heap.add, k, m]
    · exact .inr m
  · exact .inr k
theorem Heap.one_le {b : Nat} {o : Obj} {h : Heap} (e : h b = some o) : (Heap.one b o).le h := fun x u k => by
  unfold Heap.one at k
  split at k
  · rename_i hx; subst hx; cases k; exact e
  · cases k
theorem Heap.one_dj {b : Nat} {o : Obj} {h : Heap} (e : h b = none) : (Heap.one b o).dj h := fun x => by
  unfold Heap.one
  by_cases hx : x = b
  · subst hx; exact .inr e
  · left; simp [hx]
theorem Heap.nil_dj (h : Heap) : Heap.nil.dj h := fun _ => .inl rfl
theorem Heap.nil_le (h : Heap) : Heap.nil.le h := fun _ _ e => by cases e
structure PA where
  p : Heap → Prop
  up : ∀ {h h' : Heap}, h.le h' → p h → p h'
structure OA where
  p : Heap → Heap → Prop
  up : ∀ {hp hp' ho : Heap}, hp.le hp' → p hp ho → p hp' ho
def Sep (hp : Heap) : List OA → Heap → Prop
  | [], _ => True
  | A :: As, ho => ∃ h1 h2 : Heap, h1.le ho ∧ h2.le ho ∧ h1.dj h2 ∧ A.p hp h1 ∧ Sep hp As h2
theorem Sep.up {hp hp' : Heap} (h : hp.le hp') : ∀ {Os : List OA} {ho : Heap}, Sep hp Os ho → Sep hp' Os ho
  | [], _, _ => trivial
  | A :: _, _, ⟨h1, h2, a, b, c, d, e⟩ => ⟨h1, h2, a, b, c, A.up h d, Sep.up h e⟩
theorem Sep.mono {hp : Heap} : ∀ {Os : List OA} {ho ho' : Heap}, ho.le ho' → Sep hp Os ho → Sep hp Os ho'
  | [], _, _, _, _ => trivial
  | _ :: _, _, _, hl, ⟨h1, h2, a, b, c, d, e⟩ => ⟨h1, h2, a.tr hl, b.tr hl, c, d, e⟩
inductive Rem {α : Type} : α → List α → List α → Prop where
  | here {a : α} {l : List α} : Rem a (a :: l) l
  | there {a b : α} {l r : List α} : Rem a l r → Rem a (b :: l) (b :: r)
inductive Takes {α : Type} : List α → List α → List α → Prop where
  | nil {l : List α} : Takes l [] l
  | cons {a : α} {l l1 need rest : List α} : Rem a l l1 → Takes l1 need rest → Takes l (a :: need) rest
theorem Sep.rem {hp : Heap} {A : OA} {Os r : List OA} (hr : Rem A Os r) : ∀ {ho : Heap}, Sep hp Os ho → ∃ h1 h2 : Heap, h1.le ho ∧ h2.le ho ∧ h1.dj h2 ∧ A.p hp h1 ∧ Sep hp r h2 := by
  induction hr with
  | here => exact fun h => h
  | there _ ih =>
    rintro ho ⟨g1, g2, a, b, c, d, e⟩
    obtain ⟨k1, k2, a', b', c', d', e'⟩ := ih e
    exact ⟨k1, g1.add k2, a'.tr b, Heap.add_le a (b'.tr b),
      Heap.dj_symm (Heap.add_dj (Heap.dj_le c (Heap.le_refl _) a') (Heap.dj_symm c')), d', g1, k2, Heap.le_add_left _ _, Heap.le_add_right (Heap.dj_le c (Heap.le_refl _) b'), Heap.dj_le c (Heap.le_refl _) b', d, e'⟩
theorem Sep.app {hp : Heap} : ∀ {As Bs : List OA} {ho h1 h2 : Heap}, h1.le ho → h2.le ho → h1.dj h2 → Sep hp As h1 → Sep hp Bs h2 → Sep hp (As ++ Bs) ho
  | [], _, _, _, _, _, hl, _, _, hb => Sep.mono hl hb
  | A :: As, Bs, ho, h1, h2, l1, l2, hd, ⟨g1, g2, a, b, c, d, e⟩, hb =>
    ⟨g1, g2.add h2, a.tr l1, Heap.add_le (b.tr l1) l2, Heap.dj_symm (Heap.add_dj (Heap.dj_symm c) (Heap.dj_symm (Heap.dj_le hd a (Heap.le_refl _)))), d,
      Sep.app (Heap.le_add_left _ _) (Heap.le_add_right (Heap.dj_le hd b (Heap.le_refl _))) (Heap.dj_le hd b (Heap.le_refl _)) e hb⟩
theorem Sep.takes {hp : Heap} {Os need rest : List OA} (ht : Takes Os need rest) : ∀ {ho : Heap}, Sep hp Os ho → ∃ h1 h2 : Heap, h1.le ho ∧ h2.le ho ∧ h1.dj h2 ∧ Sep hp need h1 ∧ Sep hp rest h2 := by
  induction ht with
  | nil => exact fun {ho} h => ⟨Heap.nil, ho, Heap.nil_le _, Heap.le_refl _, Heap.nil_dj _, trivial, h⟩
  | cons hr _ ih =>
    intro ho h
    obtain ⟨g1, g2, a, b, c, d, e⟩ := Sep.rem hr h
    obtain ⟨k1, k2, a', b', c', d', e'⟩ := ih e
    exact ⟨g1.add k1, k2, Heap.add_le a (a'.tr b), b'.tr b, Heap.add_dj (Heap.dj_le c (Heap.le_refl _) b') c',
      ⟨g1, k1, Heap.le_add_left _ _, Heap.le_add_right (Heap.dj_le c (Heap.le_refl _) a'), Heap.dj_le c (Heap.le_refl _) a', d, d'⟩, e'⟩
structure Sat (w : World) (hp ho : Heap) (Ps : List PA) (Os : List OA) : Prop where
  inp : hp.le (hpOf w)
  ino : ho.le (hpOf w)
  dj : hp.dj ho
  ps : ∀ p, p ∈ Ps → p.p hp
  os : Sep hp Os ho
structure Rest (w w' : World) : Prop where
  os : w'.os = w.os
  tape : w'.tape = w.tape
  output : w'.output = w.output
  drawn : w.drawn ≤ w'.drawn
  size : w.heap.size ≤ w'.heap.size
theorem Rest.refl (w : World) : Rest w w := ⟨rfl, rfl, rfl, Nat.le_refl _, Nat.le_refl _⟩
theorem Rest.trans {a b c : World} (h : Rest a b) (k : Rest b c) : Rest a c := ⟨k.os.trans h.os, k.tape.trans h.tape, k.output.trans h.output, Nat.le_trans h.drawn k.drawn, Nat.le_trans h.size k.size⟩
structure Spec (P : Program) (f : FuncId) (args : Array Value) (Ps : List PA) (Os : List OA) (Q : Value → List PA → List OA → Prop) : Prop where
  fn : ∃ fn, P.funcs[f]? = some fn ∧ (fn.name == "runtime.NumGoroutine") = false ∧ fn.body.isNone = false
  calls : ∀ (w : World) (hp ho hf : Heap), Sat w hp ho Ps Os → hf.le (hpOf w) → hf.dj hp → hf.dj ho →
    Calls P f args w fun e w' => ∃ v hp' ho' Ps' Os', e = .returned v ∧ Q v Ps' Os' ∧ Sat w' hp' ho' Ps' Os' ∧ hp.le hp' ∧ hf.le (hpOf w') ∧ hf.dj hp' ∧ hf.dj ho' ∧ Rest w w'
abbrev Env := List (Nat × Value)
def look : Env → Nat → Option Value
  | [], _ => none
  | (k, v) :: r, d => cond (Nat.beq k d) (some v) (look r d)
structure NN where
  n : Nat
  ds : List Deferred
structure Fits (N : NN) (E : Env) (a : Act) : Prop where
  size : a.tmps.size = N.n
  dfs : a.defers = N.ds
  at_ : ∀ d v, look E d = some v → a.tmps[d]? = some v
def ev (E : Env) : Operand → Option Value
  | .tmp t => look E t
  | .const v => some v
  | .global g => some (.pointer (some ⟨g, 0, none⟩))
  | .func f => some (.func (.func f) #[] #[])
theorem Fits.ev {N : NN} {E : Env} {a : Act} (h : Fits N E a) {x : Operand} {v : Value} (e : SL.ev E x = some v) : a.eval x = v := by
  cases x with
  | tmp t => have := h.at_ _ _ e; simp [Act.eval, Array.getD_eq_getD_getElem?, this]
  | const u => simp [SL.ev] at e; simp [Act.eval, e]
  | global g => simp [SL.ev] at e; simp [Act.eval, e]
  | func f => simp [SL.ev] at e; simp [Act.eval, e]
def setE : Option Tmp → Value → Env → Env
  | some d, v, E => (d, v) :: E
  | none, _, E => E
def okDst (N : NN) : Option Tmp → Bool
  | some d => Nat.blt d N.n
  | none => true
theorem Fits.put {N : NN} {E : Env} {a : Act} (h : Fits N E a) {d : Option Tmp} (hd : okDst N d = true) (v : Value) : Fits N (setE d v E) (a.put d v) := by
  cases d with
  | none => exact h
  | some d =>
    have hd' : d < N.n := Nat.le_of_ble_eq_true hd
    refine ⟨by simp [Act.put, h.size], h.dfs, fun k u e => ?_⟩
    simp only [setE, look] at e
    simp only [Act.put]
    by_cases hk : d = k
    · subst hk
      have hb : Nat.beq d d = true := Nat.beq_refl d
      rw [hb] at e
      simp at e
      subst e
      simp [h.size, hd']
    · have : Nat.beq d k = false := by
        cases hb : Nat.beq d k with
        | false => rfl
        | true => exact absurd (Nat.eq_of_beq_eq_true hb) hk
      rw [this] at e
      rw [Array.getElem?_setIfInBounds_ne hk]
      exact h.at_ _ _ e
def LookAll (E : Env) : Env → Prop
  | [] => True
  | (d, v) :: r => look E d = some v ∧ LookAll E r
theorem LookAll.look {E : Env} : ∀ {E' : Env}, LookAll E E' → ∀ d v, look E' d = some v → look E d = some v
  | [], _, _, _, e => by cases e
  | (k, u) :: r, ⟨h1, h2⟩, d, v, e => by
    simp only [SL.look] at e
    cases hb : Nat.beq k d with
    | true => rw [hb] at e; simp at e; subst e; rw [← Nat.eq_of_beq_eq_true hb]; exact h1
    | false => rw [hb] at e; exact h2.look d v e
theorem Fits.less {N : NN} {E E' : Env} {a : Act} (h : Fits N E a) (hl : LookAll E E') : Fits N E' a := ⟨h.size, h.dfs, fun d v e => h.at_ d v (hl.look d v e)⟩
inductive Pl where
  | nil
  | one (kd : Nat) (flag : Bool) (o : Oper) (r : Pl)
  | two (a b : Pl)
  | yld (o : Oper) (r : Pl)
def rwp (P : Program) (ops : Array Oper) (Q : Exit → Act → World → Prop) (S : World → Prop) : Pl → Act → World → Prop
  | .nil, a, w => Q .normal a w
  | .two x y, a, w => rwp P ops Q S x a w ∧ rwp P ops Q S y a w
  | .yld o r, a, w => if Region.wanted o (yielded ops a.tmps) then o.wpIn Fence.wide 0 P a w (fun a' w' => rwp P ops Q S r a' w') Q else rwp P ops Q S r (a.put o.dst undef) w
  | .one 0 f o r, a, w =>
    if Region.wanted o (yielded ops a.tmps) then o.wp P a w (fun a' w' => (f = true → S w') ∧ rwp P ops Q S r a' w') Q else (f = true → S w) ∧ rwp P ops Q S r (a.put o.dst undef) w
  | .one 1 _ o r, a, w => ∃ v, Yields P ops o v a ∧ rwp P ops Q S r (a.put o.dst v) w
  | .one (_ + 2) _ o r, a, w => S w ∧ ∃ v, YieldsIf P ops S o v a ∧ rwp P ops Q S r (a.put o.dst v) w
inductive It where
  | code (c : Code)
  | blk (id : Nat)
  | ops (ops : Array Oper) (S : World → Prop) (l : Pl)
  | back (B : Act → World → Prop)
def fen : Option Nat → Fence
  | none => Fence.wide
  | some l => Fence.wide.inRound l
def den (ro : Option Nat) (P : Program) (R : Exit → Act → World → Prop) : List It → Exit → Act → World → Prop
  | [], e => R e
  | .code c :: k, .normal => fun a w => c.wpIn (fen ro) 0 P (den ro P R k) a w
  | .ops ops S l :: k, .normal => fun a w => rwp P ops (den ro P R k) S l a w
  | .back B :: _, .normal => B
  | .blk id :: k, .exit id' => cond (Nat.beq id' id) (den ro P R k .normal) (den ro P R k (.exit id'))
  | _ :: k, e => den ro P R k e
structure Ctx where
  P : Program
  fn : Func
  N : NN
  ro : Option Nat
  w0 : World
  hp0 : Heap
  hf : Heap
  Q : Value → List PA → List OA → Prop
  fin : Exit → Act → World → Prop
  pan : ∀ c a w, ¬ fin (.panic c) a w
  out : ∀ a w, ¬ fin .outgrown a w
structure Base (C : Ctx) (w : World) (hp ho : Heap) : Prop where
  hp0 : C.hp0.le hp
  hf : C.hf.le (hpOf w)
  djp : C.hf.dj hp
  djo : C.hf.dj ho
  rest : Rest C.w0 w
def endR (w0 : World) (hp0 hf : Heap) (Q : Value → List PA → List OA → Prop) : Ending → World → Prop := fun e w' =>
  ∃ v hp' ho' Ps' Os', e = .returned v ∧ Q v Ps' Os' ∧ Sat w' hp' ho' Ps' Os' ∧ hp0.le hp' ∧ hf.le (hpOf w') ∧ hf.dj hp' ∧ hf.dj ho' ∧ Rest w0 w'
def finF (P : Program) (fn : Func) (R : Ending → World → Prop) : Exit → Act → World → Prop
  | .normal, a, w => LeavesInM Fence.wide 0 P fn a.tmps R a.defers .returning w
  | .ret, a, w => LeavesInM Fence.wide 0 P fn a.tmps R a.defers .returning w
  | _, _, _ => False
def Ctx.den (C : Ctx) : List It → Exit → Act → World → Prop := SL.den C.ro C.P C.fin
def Go (C : Ctx) (k : List It) (E : Env) (Ps : List PA) (Os : List OA) : Prop :=
  ∀ (a : Act) (w : World) (hp ho : Heap), Fits C.N E a → Sat w hp ho Ps Os → Base C w hp ho → C.den k .normal a w
section
variable {C : Ctx} {k : List It} {E : Env} {Ps : List PA} {Os : List OA}
theorem go_env (E' : Env) (h : LookAll E E') (g : Go C k E' Ps Os) : Go C k E Ps Os := fun a w hp ho hf hs hb => g a w hp ho (hf.less h) hs hb
theorem go_skip (g : Go C k E Ps Os) : Go C (.code .skip :: k) E Ps Os := fun a w hp ho hf hs hb => wpIn_skip (g a w hp ho hf hs hb)
theorem go_label {l : Nat} (g : Go C k E Ps Os) : Go C (.code (.label l) :: k) E Ps Os := fun a w hp ho hf hs hb => wpIn_label (g a w hp ho hf hs hb)
theorem go_blk {id : Nat} (g : Go C k E Ps Os) : Go C (.blk id :: k) E Ps Os := g
theorem go_nil {ops : Array Oper} {S : World → Prop} (g : Go C k E Ps Os) : Go C (.ops ops S .nil :: k) E Ps Os := g
theorem go_two {ops : Array Oper} {S : World → Prop} {x y : Pl} (g1 : Go C (.ops ops S x :: k) E Ps Os) (g2 : Go C (.ops ops S y :: k) E Ps Os) : Go C (.ops ops S (.two x y) :: k) E Ps Os := fun a w hp ho hf hs hb => ⟨g1 a w hp ho hf hs hb, g2 a w hp ho hf hs hb⟩
theorem go_seq {x y : Code} (g : Go C (.code x :: .code y :: k) E Ps Os) : Go C (.code (.seq x y) :: k) E Ps Os := fun a w hp ho hf hs hb =>
  wpIn_seq (wpIn_mono (g a w hp ho hf hs hb) fun e a' w' q => by cases e <;> exact q)
theorem go_block {id : Nat} {c : Code} (g : Go C (.code c :: .blk id :: k) E Ps Os) : Go C (.code (.block id c) :: k) E Ps Os := fun a w hp ho hf hs hb =>
  wpIn_block (wpIn_mono (g a w hp ho hf hs hb) fun e a' w' q => by
    cases e with
    | exit i =>
      simp only [Exit.inBlock]
      replace q : (cond (Nat.beq i id) (den C.ro C.P C.fin k .normal) (den C.ro C.P C.fin k (.exit i))) a' w' := q
      cases hb : Nat.beq i id with
      | true => rw [hb] at q; rw [if_pos (Nat.eq_of_beq_eq_true hb)]; exact q
      | false => rw [hb] at q; rw [if_neg (fun h => by subst h; rw [Nat.beq_refl] at hb; cases hb)]; exact q
    | _ => exact q)
def popTo (id : Nat) : List It → Option (List It)
  | [] => none
  | .blk i :: k => cond (Nat.beq id i) (some k) (popTo id k)
  | _ :: k => popTo id k
theorem den_exit {ro : Option Nat} {P : Program} {R : Exit → Act → World → Prop} {id : Nat} : ∀ {k k' : List It}, popTo id k = some k' → den ro P R k (.exit id) = den ro P R k' .normal
  | [], _, h => by cases h
  | .blk i :: k, k', h => by
    simp only [popTo] at h
    simp only [den]
    cases hb : Nat.beq id i with
    | true => rw [hb] at h; simp at h; subst h; rfl
    | false => rw [hb] at h; exact den_exit (k := k) h
  | .code _ :: k, k', h => den_exit (k := k) h
  | .ops _ _ _ :: k, k', h => den_exit (k := k) h
  | .back _ :: k, k', h => den_exit (k := k) h
theorem go_exit {id : Nat} {k' : List It} (h : popTo id k = some k') (g : Go C k' E Ps Os) : Go C (.code (.exit id) :: k) E Ps Os := fun a w hp ho hf hs hb =>
  wpIn_exit (by show C.den k (.exit id) a w; unfold Ctx.den; rw [den_exit h]; exact g a w hp ho hf hs hb)
theorem den_ret {ro : Option Nat} {P : Program} {R : Exit → Act → World → Prop} : ∀ (k : List It), den ro P R k .ret = R .ret
  | [] => rfl
  | .blk _ :: k => den_ret k
  | .code _ :: k => den_ret k
  | .ops _ _ _ :: k => den_ret k
  | .back _ :: k => den_ret k
theorem den_panic {ro : Option Nat} {P : Program} {R : Exit → Act → World → Prop} (c : List PanicEntry) : ∀ (k : List It), den ro P R k (.panic c) = R (.panic c)
  | [] => rfl
  | .blk _ :: k => den_panic c k
  | .code _ :: k => den_panic c k
  | .ops _ _ _ :: k => den_panic c k
  | .back _ :: k => den_panic c k
theorem den_out {ro : Option Nat} {P : Program} {R : Exit → Act → World → Prop} : ∀ (k : List It), den ro P R k .outgrown = R .outgrown
  | [] => rfl
  | .blk _ :: k => den_out k
  | .code _ :: k => den_out k
  | .ops _ _ _ :: k => den_out k
  | .back _ :: k => den_out k
theorem den_no (C : Ctx) (k : List It) : ¬ LetsOut (C.den k) := fun ⟨a, w, h⟩ => by
  unfold Ctx.den at h
  rw [den_out] at h
  exact C.out a w h
theorem go_cond {c : Operand} {x y : Code} {b : Bool} (h : ev E c = some (.bool b)) (g1 : b = true → Go C (.code x :: k) E Ps Os) (g2 : b = false → Go C (.code y :: k) E Ps Os) :
    Go C (.code (.cond c x y) :: k) E Ps Os := fun a w hp ho hf hs hb =>
  wpIn_cond_split (hf.ev h) (fun e => g1 e a w hp ho hf hs hb) (fun e => g2 e a w hp ho hf hs hb)
theorem go_cond_t {c : Operand} {x y : Code} (h : ev E c = some (.bool true)) (g1 : Go C (.code x :: k) E Ps Os) : Go C (.code (.cond c x y) :: k) E Ps Os :=
  go_cond h (fun _ => g1) (fun e => by cases e)
theorem go_cond_f {c : Operand} {x y : Code} (h : ev E c = some (.bool false)) (g2 : Go C (.code y :: k) E Ps Os) : Go C (.code (.cond c x y) :: k) E Ps Os :=
  go_cond h (fun e => by cases e) (fun _ => g2)
theorem Fits.again {N : NN} {E : Env} {a : Act} (h : Fits N E a) {d : Nat} {v : Value} (e : look E d = some v) : Fits N ((d, v) :: E) a :=
  ⟨h.size, h.dfs, fun k u q => by
    simp only [look] at q
    cases hb : Nat.beq d k with
    | true => rw [hb] at q; simp at q; subst q; rw [← Nat.eq_of_beq_eq_true hb]; exact h.at_ _ _ e
    | false => rw [hb] at q; exact h.at_ _ _ q⟩
theorem go_condD {c : Operand} {x y : Code} {φ : Prop} {i : Decidable φ} (h : ev E c = some (.bool (@decide φ i))) (g1 : φ → Go C (.code x :: k) E Ps Os) (g2 : ¬φ → Go C (.code y :: k) E Ps Os) :
    Go C (.code (.cond c x y) :: k) E Ps Os := go_cond h (fun e => g1 (of_decide_eq_true e)) (fun e => g2 (of_decide_eq_false e))
theorem go_condN {c : Operand} {x y : Code} {φ : Prop} {i : Decidable φ} (h : ev E c = some (.bool (!@decide φ i))) (g1 : ¬φ → Go C (.code x :: k) E Ps Os) (g2 : φ → Go C (.code y :: k) E Ps Os) :
    Go C (.code (.cond c x y) :: k) E Ps Os := go_cond h (fun e => g1 (of_decide_eq_false (by simpa using e))) (fun e => g2 (of_decide_eq_true (by simpa using e)))
theorem go_re (d : Nat) (v : Value) (h : look E d = some v) (g : Go C k ((d, v) :: E) Ps Os) : Go C k E Ps Os := fun a w hp ho hf hs hb => g a w hp ho (hf.again h) hs hb
theorem go_known (d : Nat) {b : Bool} (h : look E d = some (.bool b)) (g1 : b = true → Go C k ((d, .bool true) :: E) Ps Os) (g2 : b = false → Go C k ((d, .bool false) :: E) Ps Os) : Go C k E Ps Os := by
  cases b with
  | true => exact go_re d _ h (g1 rfl)
  | false => exact go_re d _ h (g2 rfl)
inductive Subs (Ps : List PA) : List PA → Prop where
  | nil : Subs Ps []
  | cons {q : PA} {l : List PA} : q ∈ Ps → Subs Ps l → Subs Ps (q :: l)
theorem Subs.mem {Ps l : List PA} (h : Subs Ps l) : ∀ q, q ∈ l → q ∈ Ps := by
  induction h with
  | nil => exact fun _ h => nomatch h
  | cons a _ ih =>
    intro q hq
    rcases List.mem_cons.1 hq with rfl | hq
    · exact a
    · exact ih q hq
def Ent (Ps : List PA) (q : PA) : Prop := ∀ h : Heap, (∀ p, p ∈ Ps → p.p h) → q.p h
theorem Ent.of_mem {q : PA} (h : q ∈ Ps) : Ent Ps q := fun _ a => a _ h
theorem Sat.ents {w : World} {hp ho : Heap} (h : Sat w hp ho Ps Os) {Ps' : List PA} (e : ∀ q, q ∈ Ps' → Ent Ps q) : Sat w hp ho Ps' Os := ⟨h.inp, h.ino, h.dj, fun q hq => e q hq hp h.ps, h.os⟩
theorem forall_cons {α : Type} {p : α → Prop} {a : α} {l : List α} (h : p a) (t : ∀ x, x ∈ l → p x) : ∀ x, x ∈ a :: l → p x := fun x hx => by
  rcases List.mem_cons.1 hx with rfl | hx
  · exact h
  · exact t x hx
theorem Subs.ents {Ps l : List PA} (h : Subs Ps l) : ∀ q, q ∈ l → Ent Ps q := fun q hq => .of_mem (h.mem q hq)
theorem go_ent (q : PA) (h : Ent Ps q) (g : Go C k E (q :: Ps) Os) : Go C k E Ps Os := fun a w hp ho hf hs hb =>
  g a w hp ho hf (hs.ents (forall_cons h fun p hq => .of_mem hq)) hb
def PA.and (φ : Prop) (q : PA) : PA := ⟨fun h => φ ∧ q.p h, fun hl hx => ⟨hx.1, q.up hl hx.2⟩⟩
def PA.tt : PA := ⟨fun _ => True, fun _ h => h⟩
theorem go_pand {φ : Prop} {q : PA} (g : φ → Go C k E (q :: Ps) Os) : Go C k E (PA.and φ q :: Ps) Os := fun a w hp ho hf hs hb => by
  obtain ⟨h1, h2⟩ := hs.ps _ (.head _)
  exact g h1 a w hp ho hf ⟨hs.inp, hs.ino, hs.dj, forall_cons h2 fun p hq => hs.ps p (.tail _ hq), hs.os⟩ hb
theorem go_fact {φ : Prop} (q : PA) (h : q ∈ Ps) (e : ∀ h, q.p h → φ) (g : φ → Go C k E Ps Os) : Go C k E Ps Os := fun a w hp ho hf hs hb => g (e hp (hs.ps q h)) a w hp ho hf hs hb
theorem go_ofact {φ : Prop} (A : OA) {r : List OA} (h : Rem A Os r) (e : ∀ hp ho, A.p hp ho → φ) (g : φ → Go C k E Ps Os) : Go C k E Ps Os := fun a w hp ho hf hs hb => by
  obtain ⟨_, _, _, _, _, d, _⟩ := Sep.rem h hs.os
  exact g (e _ _ d) a w hp ho hf hs hb
theorem Sep.set {hp : Heap} {A : OA} {Os r : List OA} (hr : Rem A Os r) {ho : Heap} (h : Sep hp Os ho) {Bs : List OA} (hi : ∀ h1, A.p hp h1 → Sep hp Bs h1) : Sep hp (Bs ++ r) ho := by
  obtain ⟨h1, h2, a, b, c, d, e⟩ := Sep.rem hr h
  exact Sep.app a b c (hi h1 d) e
theorem go_imp (A : OA) (Bs : List OA) {r : List OA} (h : Rem A Os r) (hi : ∀ hp h1, A.p hp h1 → Sep hp Bs h1) (g : Go C k E Ps (Bs ++ r)) : Go C k E Ps Os := fun a w hp ho hf hs hb =>
  g a w hp ho hf ⟨hs.inp, hs.ino, hs.dj, hs.ps, hs.os.set h (hi hp)⟩ hb
def OA.ex {α : Type} (f : α → OA) : OA := ⟨fun hp h => ∃ x, (f x).p hp h, fun hl ⟨x, hx⟩ => ⟨x, (f x).up hl hx⟩⟩
def OA.and (φ : Prop) (q : OA) : OA := ⟨fun hp h => φ ∧ q.p hp h, fun hl hx => ⟨hx.1, q.up hl hx.2⟩⟩
def OA.all (l : List OA) : OA := ⟨fun hp h => Sep hp l h, fun hl hx => Sep.up hl hx⟩
theorem go_oex {α : Type} {f : α → OA} {r : List OA} (h : Rem (OA.ex f) Os r) (g : ∀ x, Go C k E Ps (f x :: r)) : Go C k E Ps Os := fun a w hp ho hf hs hb => by
  obtain ⟨h1, h2, i, b, c, ⟨x, d⟩, e⟩ := Sep.rem h hs.os
  exact g x a w hp ho hf ⟨hs.inp, hs.ino, hs.dj, hs.ps, h1, h2, i, b, c, d, e⟩ hb
theorem go_oand {φ : Prop} {q : OA} {r : List OA} (h : Rem (OA.and φ q) Os r) (g : φ → Go C k E Ps (q :: r)) : Go C k E Ps Os := fun a w hp ho hf hs hb => by
  obtain ⟨h1, h2, i, b, c, ⟨x, d⟩, e⟩ := Sep.rem h hs.os
  exact g x a w hp ho hf ⟨hs.inp, hs.ino, hs.dj, hs.ps, h1, h2, i, b, c, d, e⟩ hb
theorem go_oall {l r : List OA} (h : Rem (OA.all l) Os r) (g : Go C k E Ps (l ++ r)) : Go C k E Ps Os := go_imp _ l h (fun _ _ x => x) g
theorem go_freeze (A : OA) (q : PA) {r : List OA} (h : Rem A Os r) (hi : ∀ hp h1 H, hp.le H → h1.le H → A.p hp h1 → q.p H) (g : Go C k E (q :: Ps) r) : Go C k E Ps Os := fun a w hp ho hf hs hb => by
  obtain ⟨h1, h2, i, b, c, d, e⟩ := Sep.rem h hs.os
  have dj1 : hp.dj h1 := Heap.dj_le hs.dj (Heap.le_refl _) i
  refine g a w (hp.add h1) h2 hf ⟨Heap.add_le hs.inp (i.tr hs.ino), b.tr hs.ino, Heap.add_dj (Heap.dj_le hs.dj (Heap.le_refl _) b) c, fun p hq => ?_, Sep.up (Heap.le_add_left _ _) e⟩
    ⟨hb.hp0.tr (Heap.le_add_left _ _), hb.hf, Heap.dj_symm (Heap.add_dj (Heap.dj_symm hb.djp) (Heap.dj_le (Heap.dj_symm hb.djo) i (Heap.le_refl _))), Heap.dj_le hb.djo (Heap.le_refl _) b, hb.rest⟩
  rcases List.mem_cons.1 hq with rfl | hq
  · exact hi hp h1 _ (Heap.le_add_left _ _) (Heap.le_add_right dj1) d
  · exact p.up (Heap.le_add_left _ _) (hs.ps p hq)
def Bk (C : Ctx) {X : Type} (chg : X → Env) (rest : Env) (P' : X → List PA) (O' : X → List OA) (J : X → Prop) (μ : X → Nat) (n : Nat) : Act → World → Prop := fun a w =>
  ∃ y hp ho, Fits C.N (chg y ++ rest) a ∧ Sat w hp ho (P' y) (O' y) ∧ Base C w hp ho ∧ J y ∧ μ y < n
theorem go_loop {X : Type} {c : Code} (chg : X → Env) (rest : Env) (P' : X → List PA) (O' : X → List OA) (J : X → Prop) (μ : X → Nat) (x0 : X) {r : List OA}
    (hE : LookAll E (chg x0 ++ rest)) (hP : Subs Ps (P' x0)) (hO : Takes Os (O' x0) r) (hJ : J x0)
    (round : ∀ x, J x → Go C (.code c :: .back (Bk C chg rest P' O' J μ (μ x)) :: k) (chg x ++ rest) (P' x) (O' x)) :
    Go C (.code (.loop c) :: k) E Ps Os := fun a w hp ho hf hs hb => by
  refine wpIn_loop_ghost (fun n a w => ∃ x hp ho, μ x = n ∧ Fits C.N (chg x ++ rest) a ∧ Sat w hp ho (P' x) (O' x) ∧ Base C w hp ho ∧ J x) (μ x0) ?_ ?_
  · obtain ⟨h1, h2, a1, b, c1, d, e⟩ := Sep.takes hO hs.os
    exact ⟨x0, hp, ho, rfl, hf.less hE, ⟨hs.inp, hs.ino, hs.dj, (hs.ents hP.ents).ps, Sep.mono a1 d⟩, hb, hJ⟩
  · rintro n a' w' ⟨x, hp', ho', rfl, f', s', b', j'⟩
    refine wpIn_mono (round x j' a' w' hp' ho' f' s' b') fun e a2 w2 q => ?_
    cases e with
    | normal =>
      obtain ⟨y, p2, o2, f2, s2, b2, j2, m2⟩ := q
      exact ⟨μ y, m2, y, p2, o2, rfl, f2, s2, b2, j2⟩
    | exit i => exact q
    | goto i => exact q
    | ret => exact q
    | panic c => exact q
    | outgrown => exact q
theorem go_back {X : Type} {chg : X → Env} {rest : Env} {P' : X → List PA} {O' : X → List OA} {J : X → Prop} {μ : X → Nat} {n : Nat} (y : X) {r : List OA}
    (hE : LookAll E (chg y ++ rest)) (hP : Subs Ps (P' y)) (hO : Takes Os (O' y) r) (hJ : J y) (hm : μ y < n) :
    Go C (.back (Bk C chg rest P' O' J μ n) :: k) E Ps Os := fun a w hp ho hf hs hb => by
  obtain ⟨h1, h2, a1, b, c1, d, e⟩ := Sep.takes hO hs.os
  exact ⟨y, hp, ho, hf.less hE, ⟨hs.inp, hs.ino, hs.dj, (hs.ents hP.ents).ps, Sep.mono a1 d⟩, hb, hJ, hm⟩
theorem go_loop' {X : Type} {c : Code} (chg : X → Env) (rest : Env) (O' : X → List OA) (J : X → Prop) (μ : X → Nat) (x0 : X) {r : List OA}
    (hE : LookAll E (chg x0 ++ rest)) (hO : Takes Os (O' x0) r) (hJ : J x0)
    (round : ∀ x, J x → Go C (.code c :: .back (Bk C chg rest (fun _ => Ps) (fun x => O' x ++ r) J μ (μ x)) :: k) (chg x ++ rest) Ps (O' x ++ r)) :
    Go C (.code (.loop c) :: k) E Ps Os := fun a w hp ho hf hs hb => by
  obtain ⟨h1, h2, a1, b, c1, d, e⟩ := Sep.takes hO hs.os
  exact go_loop (Os := O' x0 ++ r) chg rest (fun _ => Ps) (fun x => O' x ++ r) J μ x0 hE (by
    have : ∀ l : List PA, Subs (l ++ Ps) Ps := fun l => by
      have key : ∀ m : List PA, (∀ q, q ∈ m → q ∈ l ++ Ps) → Subs (l ++ Ps) m := fun m => by
        induction m with
        | nil => exact fun _ => .nil
        | cons q m ih => exact fun h => .cons (h q (.head _)) (ih fun q hq => h q (.tail _ hq))
      exact key Ps fun q hq => List.mem_append_right _ hq
    exact this []) (takes_self _) hJ round a w hp ho hf ⟨hs.inp, hs.ino, hs.dj, hs.ps, Sep.app a1 b c1 d e⟩ hb
where
  takes_self : ∀ l : List OA, Takes l l []
    | [] => .nil
    | _ :: l => .cons .here (takes_self l)
theorem go_cut {X : Type} {c : Code} (chg : X → Env) (rest : Env) (P' : X → List PA) (O' : X → List OA) (J : X → Prop) (hE : LookAll E rest)
    (first : Go C (.code c :: .back (Bk C chg rest P' O' J (fun _ => 0) 1) :: k) E Ps Os)
    (then_ : ∀ x, J x → Go C k (chg x ++ rest) (P' x) (O' x)) : Go C (.code c :: k) E Ps Os := fun a w hp ho hf hs hb =>
  wpIn_mono (first a w hp ho hf hs hb) fun e a2 w2 q => by
    cases e with
    | normal =>
      obtain ⟨y, p2, o2, f2, s2, b2, j2, m2⟩ := q
      exact then_ y j2 a2 w2 p2 o2 f2 s2 b2
    | exit i => exact q
    | goto i => exact q
    | ret => exact q
    | panic c => exact q
    | outgrown => exact q
theorem go_cut' {X : Type} {c : Code} (chg : X → Env) (rest : Env) (J : X → Prop) (hE : LookAll E rest)
    (first : Go C (.code c :: .back (Bk C chg rest (fun _ => Ps) (fun _ => Os) J (fun _ => 0) 1) :: k) E Ps Os)
    (then_ : ∀ x, J x → Go C k (chg x ++ rest) Ps Os) : Go C (.code c :: k) E Ps Os := go_cut chg rest _ _ J hE first then_
theorem wrap_i64 {n : Int} (h1 : -9223372036854775808 ≤ n) (h2 : n ≤ 9223372036854775807) : IntKind.i64.wrap n = n := by
  unfold IntKind.wrap IntKind.signed IntKind.bits
  simp only [Bool.true_and]
  have e1 : ((2 : Int) ^ 64) = 18446744073709551616 := by decide
  have e2 : ((2 : Int) ^ (64 - 1)) = 9223372036854775808 := by decide
  rw [e1, e2]
  split <;> simp at * <;> omega
theorem go_i64 (d : Nat) {n : Int} (h : look E d = some (.int .i64 (IntKind.i64.wrap n))) (h1 : -9223372036854775808 ≤ n) (h2 : n ≤ 9223372036854775807) (g : Go C k ((d, .int .i64 n) :: E) Ps Os) : Go C k E Ps Os :=
  go_re d _ (by rw [h, wrap_i64 h1 h2]) g
theorem den_goto {ro : Option Nat} {P : Program} {R : Exit → Act → World → Prop} (l : Nat) : ∀ (k : List It), den ro P R k (.goto l) = R (.goto l)
  | [] => rfl
  | .blk _ :: k => den_goto l k
  | .code _ :: k => den_goto l k
  | .ops _ _ _ :: k => den_goto l k
  | .back _ :: k => den_goto l k
theorem go_scope {c : Code} (hr : C.ro = none) (hg : ∀ l a w, ¬ C.fin (.goto l) a w) (g : Go C (.code c :: k) E Ps Os) : Go C (.code (.scope c) :: k) E Ps Os := by
  obtain ⟨P, fn, N, ro, w0, hp0, hf, Q, fin, pan, out⟩ := C
  cases hr
  intro a w hp ho hf hs hb
  have h : c.wpIn Fence.wide 0 P (den none P fin k) a w := g a w hp ho hf hs hb
  refine wpIn_wide.2 (wp_scope_straight (wp_mono (wpIn_wide.1 h) fun e a2 w2 q => ?_))
  cases e with
  | goto l => rw [den_goto] at q; exact absurd q (hg l a2 w2)
  | _ => exact q
def Reads (C : Ctx) (Ps : List PA) (Os : List OA) (t : TypeId) (ad : Addr) (v : Value) : Prop :=
  ∀ (w : World) (hp ho : Heap), Sat w hp ho Ps Os → (loadVar t ad).run C.P w = .ok v w
inductive Res (C : Ctx) (E : Env) (Ps : List PA) (Os : List OA) : ResultVar → Value → Prop where
  | tmp {t : Tmp} {v : Value} : look E t = some v → Res C E Ps Os (.tmp t) v
  | cell {a : Tmp} {t : TypeId} {ad : Addr} {v : Value} : look E a = some (.pointer (some ad)) → Reads C Ps Os t ad v → Res C E Ps Os (.cell a t) v
theorem Fits.getD {N : NN} {a : Act} (hf : Fits N E a) {t : Tmp} {v : Value} (e : look E t = some v) : a.tmps.getD t undef = v := by
  have := hf.at_ _ _ e
  simp [Array.getD_eq_getD_getElem?, this]
def AtEnd (C : Ctx) : Prop := C.fin = finF C.P C.fn (endR C.w0 C.hp0 C.hf C.Q) ∧ C.N.ds = []
theorem go_ret0 (h0 : AtEnd C) {v : Value} {Ps' : List PA} {Os' r : List OA} (hv : ∀ (a : Act) (w : World) (hp ho : Heap), Fits C.N E a → Sat w hp ho Ps Os → (results C.fn a.tmps).run C.P w = .ok v w)
    (q : C.Q v Ps' Os') (hP : Subs Ps Ps') (hO : Takes Os Os' r) {e : Exit} (he : e = .ret ∨ e = .normal) {a : Act} {w : World} {hp ho : Heap} (hf : Fits C.N E a) (hs : Sat w hp ho Ps Os) (hb : Base C w hp ho) :
    C.fin e a w := by
  have h : ∃ v, (results C.fn a.tmps).run C.P w = .ok v w ∧ endR C.w0 C.hp0 C.hf C.Q (.returned v) w := by
    obtain ⟨h1, h2, a1, b, c1, d, e⟩ := Sep.takes hO hs.os
    exact ⟨v, hv a w hp ho hf hs, v, hp, ho, Ps', Os', rfl, q, ⟨hs.inp, hs.ino, hs.dj, (hs.ents hP.ents).ps, Sep.mono a1 d⟩, hb.hp0, hb.hf, hb.djp, hb.djo, hb.rest⟩
  have hd : a.defers = [] := hf.dfs.trans h0.2
  rw [h0.1]
  rcases he with rfl | rfl <;> (show LeavesInM _ _ _ _ _ _ _ _ _; rw [hd]; exact h)
theorem go_ret (h0 : AtEnd C) {v : Value} (Ps' : List PA) (Os' : List OA) {r : List OA} (hv : ∀ (a : Act) (w : World) (hp ho : Heap), Fits C.N E a → Sat w hp ho Ps Os → (results C.fn a.tmps).run C.P w = .ok v w)
    (q : C.Q v Ps' Os') (hP : Subs Ps Ps') (hO : Takes Os Os' r) : Go C (.code .ret :: k) E Ps Os := fun a w hp ho hf hs hb =>
  wpIn_ret (by show den C.ro C.P C.fin k .ret a w; rw [den_ret]; exact go_ret0 h0 hv q hP hO (.inl rfl) hf hs hb)
theorem go_end (h0 : AtEnd C) {v : Value} (Ps' : List PA) (Os' : List OA) {r : List OA} (hv : ∀ (a : Act) (w : World) (hp ho : Heap), Fits C.N E a → Sat w hp ho Ps Os → (results C.fn a.tmps).run C.P w = .ok v w)
    (q : C.Q v Ps' Os') (hP : Subs Ps Ps') (hO : Takes Os Os' r) : Go C [] E Ps Os := fun a w hp ho hf hs hb =>
  go_ret0 h0 hv q hP hO (.inr rfl) hf hs hb
theorem res0 (h : C.fn.results = #[]) (a : Act) (w : World) (hp ho : Heap) (hf : Fits C.N E a) (hs : Sat w hp ho Ps Os) : (results C.fn a.tmps).run C.P w = .ok (.tuple #[]) w := by simp [results, h]
theorem res1 {r1 : ResultVar} {v1 : Value} (h : C.fn.results = #[r1]) (h1 : Res C E Ps Os r1 v1) (a : Act) (w : World) (hp ho : Heap) (hf : Fits C.N E a) (hs : Sat w hp ho Ps Os) :
    (results C.fn a.tmps).run C.P w = .ok (v1) w := by
  all_goals rcases h1 with ⟨e1⟩ | ⟨e1, q1⟩ <;> replace e1 := hf.getD e1 <;> (try replace q1 := q1 w hp ho hs)
  all_goals simp_all [results, asAddr]
theorem res2 {r1 r2 : ResultVar} {v1 v2 : Value} (h : C.fn.results = #[r1, r2]) (h1 : Res C E Ps Os r1 v1) (h2 : Res C E Ps Os r2 v2) (a : Act) (w : World) (hp ho : Heap) (hf : Fits C.N E a) (hs : Sat w hp ho Ps Os) :
    (results C.fn a.tmps).run C.P w = .ok (.tuple #[v1, v2]) w := by
  all_goals rcases h1 with ⟨e1⟩ | ⟨e1, q1⟩ <;> replace e1 := hf.getD e1 <;> (try replace q1 := q1 w hp ho hs)
  all_goals rcases h2 with ⟨e2⟩ | ⟨e2, q2⟩ <;> replace e2 := hf.getD e2 <;> (try replace q2 := q2 w hp ho hs)
  all_goals simp_all [results, asAddr]
theorem res3 {r1 r2 r3 : ResultVar} {v1 v2 v3 : Value} (h : C.fn.results = #[r1, r2, r3]) (h1 : Res C E Ps Os r1 v1) (h2 : Res C E Ps Os r2 v2) (h3 : Res C E Ps Os r3 v3) (a : Act) (w : World) (hp ho : Heap) (hf : Fits C.N E a) (hs : Sat w hp ho Ps Os) :
    (results C.fn a.tmps).run C.P w = .ok (.tuple #[v1, v2, v3]) w := by
  all_goals rcases h1 with ⟨e1⟩ | ⟨e1, q1⟩ <;> replace e1 := hf.getD e1 <;> (try replace q1 := q1 w hp ho hs)
  all_goals rcases h2 with ⟨e2⟩ | ⟨e2, q2⟩ <;> replace e2 := hf.getD e2 <;> (try replace q2 := q2 w hp ho hs)
  all_goals rcases h3 with ⟨e3⟩ | ⟨e3, q3⟩ <;> replace e3 := hf.getD e3 <;> (try replace q3 := q3 w hp ho hs)
  all_goals simp_all [results, asAddr]
end
def envOf : Nat → List Value → Env
  | _, [] => []
  | n, v :: r => (n, v) :: envOf (n + 1) r
theorem envOf_at : ∀ (l : List Value) (n d : Nat) (v : Value), look (envOf n l) d = some v → n ≤ d ∧ l[d - n]? = some v
  | [], _, _, _, h => by cases h
  | u :: r, n, d, v, h => by
    simp only [envOf, look] at h
    cases hb : Nat.beq n d with
    | true => rw [hb] at h; simp at h; subst h; have := Nat.eq_of_beq_eq_true hb; subst this; simp
    | false =>
      rw [hb] at h
      obtain ⟨h1, h2⟩ := envOf_at r (n + 1) d v h
      refine ⟨by omega, ?_⟩
      rw [show d - n = (d - (n + 1)) + 1 from by omega, List.getElem?_cons_succ]
      exact h2
theorem spec_of {P : Program} {f : FuncId} {fn : Func} {c : Code} {args : List Value} {Ps : List PA} {Os : List OA} {Q : Value → List PA → List OA → Prop} (N : Nat)
    (hf : P.funcs[f]? = some fn) (hb : fn.body = some c) (hn : (fn.name == "runtime.NumGoroutine") = false) (hN : fn.ntmps = N) (hl : args.length ≤ N)
    (g : ∀ w0 hp0 hf0, Go ⟨P, fn, ⟨N, []⟩, none, w0, hp0, hf0, Q, finF P fn (endR w0 hp0 hf0 Q), fun _ _ _ h => h, fun _ _ h => h⟩ [.code c] (envOf 0 args) Ps Os) : Spec P f args.toArray Ps Os Q := by
  refine ⟨⟨fn, hf, hn, by simp [hb]⟩, fun w hp ho hf' hs h1 h2 h3 => ?_⟩
  refine callsIn_wide.1 (callsIn_of_wp_marks (n := 0) hf hb trivial ?_ rfl)
  refine wpIn_mono (Q := finF P fn (endR w hp hf' Q)) ?_ (fun e a w q => by cases e <;> first | exact q | exact False.elim q)
  refine g w hp hf' _ w hp ho ⟨?_, rfl, ?_⟩ hs ⟨Heap.le_refl _, h1, h2, h3, .refl _⟩
  · simp [hN]; omega
  · intro d v e
    obtain ⟨_, h5⟩ := envOf_at args 0 d v e
    have hd : d < args.length := by
      rcases Nat.lt_or_ge d args.length with h | h
      · exact h
      · simp [h] at h5
    simp only [Nat.sub_zero] at h5
    rw [Array.getElem?_append_left (by simpa using hd)]
    simpa using h5
section
variable {P : Program} {ops : Array Oper} {Q : Exit → Act → World → Prop} {S : World → Prop}
def textSteps : List Oper → Pl
  | [] => .nil
  | o :: r => .one 0 false o (textSteps r)
theorem rwp_text : ∀ (l : List Oper) (a : Act) (w : World), rwp P ops Q S (textSteps l) a w → wpList P ops Q l a w
  | [], a, w, h => h
  | o :: r, a, w, h => by
    simp only [textSteps, rwp] at h
    simp only [wpList]
    split at h
    · rename_i hw
      rw [if_pos hw]
      exact .inl (Oper.wp_mono (fun a' w' q => rwp_text r a' w' q.2) h)
    · rename_i hw
      rw [if_neg hw]
      exact rwp_text r _ _ h.2
inductive Anc (ops : Array Oper) : Nat → Nat → Prop where
  | one {j : Nat} {o : Oper} {e : Edge} : ops[j]? = some o → e ∈ o.after → Region.binds .any e = true → Anc ops j e.on
  | more {j i : Nat} {o : Oper} {e : Edge} : ops[j]? = some o → e ∈ o.after → Region.binds .any e = true → Anc ops e.on i → Anc ops j i
def Closed (ops : Array Oper) (listed : Array Bool) : Prop := ∀ j o, listed.getD j false = true → ops[j]? = some o → ∀ e ∈ o.after, Region.binds .any e = true → listed.getD e.on false = true
theorem Anc.listed {listed : Array Bool} (hc : Closed ops listed) {j i : Nat} (h : Anc ops j i) : listed.getD j false = true → listed.getD i false = true := by
  induction h with
  | one ho he hb => exact fun hj => hc _ _ hj ho _ he hb
  | more ho he hb _ ih => exact fun hj => ih (hc _ _ hj ho _ he hb)
theorem Anc.ready {listed : Array Bool} (hc : Closed ops listed) {j i : Nat} (h : Anc ops j i) (hr : j ∈ Region.ready .any ops listed) : listed.getD i false = true := by
  obtain ⟨_, o, ho, hall⟩ := mem_ready.1 hr
  cases h with
  | one ho' he hb => rw [ho] at ho'; cases ho'; exact hall _ he hb
  | more ho' he hb h' => rw [ho] at ho'; cases ho'; exact h'.listed hc (hall _ he hb)
theorem Closed.set {listed : Array Bool} (hc : Closed ops listed) {i : Nat} (hr : i ∈ Region.ready .any ops listed) : Closed ops (listed.setIfInBounds i true) := by
  intro j o hj ho e he hb
  by_cases hji : j = i
  · subst hji
    obtain ⟨_, o', ho', hall⟩ := mem_ready.1 hr
    rw [ho] at ho'; cases ho'
    exact getD_set_true (hall e he hb)
  · rw [getD_set_ne false (Ne.symm hji)] at hj
    exact getD_set_true (hc j o hj ho e he hb)
theorem Closed.none (n : Nat) : Closed ops (Array.replicate n false) := by
  intro j o hj
  simp [Array.getD_eq_getD_getElem?, Array.getElem?_replicate] at hj
  split at hj <;> simp at hj
theorem before_bits : ∀ (l : List Oper) (acc : Array Nat) (pre : List Oper), acc.size = pre.length →
    (pre ++ l = ops.toList) → (∀ j i, (acc.getD j 0).testBit i = true → Anc ops j i) →
    ∀ j i, ((l.foldl (init := acc) fun acc o => acc.push (o.after.foldl (fun s e => if Region.binds .any e then s ||| 2 ^ e.on ||| acc.getD e.on 0 else s) 0)).getD j 0).testBit i = true → Anc ops j i
  | [], acc, pre, _, _, h, j, i, hb => h j i hb
  | o :: l, acc, pre, hs, hp, h, j, i, hb => by
    simp only [List.foldl_cons] at hb
    refine before_bits l _ (pre ++ [o]) (by simp [hs]) (by simpa using hp) ?_ j i hb
    intro j i hb
    have ho : ops[pre.length]? = some o := by
      rw [← Array.getElem?_toList, ← hp]; simp
    by_cases hj : j = acc.size
    · subst hj
      simp only [Array.getD_eq_getD_getElem?, Array.getElem?_push_size, Option.getD_some] at hb
      rw [hs]
      rw [← Array.foldl_toList] at hb
      have key : ∀ (es : List Edge) (s : Nat), (∀ e ∈ es, e ∈ o.after) → (s.testBit i = true → Anc ops pre.length i) →
          (es.foldl (fun s e => if Region.binds .any e then s ||| 2 ^ e.on ||| (acc[e.on]?).getD 0 else s) s).testBit i = true → Anc ops pre.length i := by
        intro es
        induction es with
        | nil => exact fun s _ hs' hb' => hs' hb'
        | cons e es ih =>
          intro s hm hs' hb'
          simp only [List.foldl_cons] at hb'
          refine ih _ (fun e' he' => hm e' (.tail _ he')) ?_ hb'
          intro hb2
          split at hb2
          · rename_i hbd
            rw [Nat.testBit_or, Nat.testBit_or, Bool.or_eq_true, Bool.or_eq_true] at hb2
            rcases hb2 with (hb2 | hb2) | hb2
            · exact hs' hb2
            · rw [Nat.testBit_two_pow] at hb2
              have : e.on = i := by simpa using hb2
              subst this
              exact .one ho (hm e (.head _)) hbd
            · exact .more ho (hm e (.head _)) hbd (h e.on i (by simpa [Array.getD_eq_getD_getElem?] using hb2))
          · exact hs' hb2
      exact key o.after.toList 0 (fun e he => by simpa using he) (by simp) hb
    · refine h j i ?_
      simp only [Array.getD_eq_getD_getElem?] at hb ⊢
      rw [Array.getElem?_push] at hb
      rw [if_neg hj] at hb
      exact hb
theorem before_anc {j i : Nat} (h : ((Region.before ops).getD j 0).testBit i = true) : Anc ops j i := by
  unfold Region.before at h
  rw [← Array.foldl_toList] at h
  exact before_bits (ops := ops) ops.toList #[] [] rfl rfl (by simp) j i h
def flagOf (bs : Array Nat) (loads : List Nat) (j : Nat) : Bool := loads.any fun i => i != j && !(bs.getD j 0).testBit i && !(bs.getD i 0).testBit j
def wpF (P : Program) (ops : Array Oper) (Q : Exit → Act → World → Prop) (S : World → Prop) (fl : Nat → Bool) : Nat → Array Bool → Act → World → Prop
  | 0, listed, a, w => Region.ready .any ops listed = [] ∧ Q .normal a w
  | fuel + 1, listed, a, w =>
    (Region.ready .any ops listed = [] → Q .normal a w) ∧
    ∀ i ∈ Region.ready .any ops listed, wpOp P ops Q i (fun a' w' => (fl i = true → S w → S w') ∧ wpF P ops Q S fl fuel (listed.setIfInBounds i true) a' w') a w
theorem wpAny_of_F {fl : Nat → Bool} : ∀ (fuel : Nat) (listed : Array Bool) (a : Act) (w : World), wpF P ops Q S fl fuel listed a w → wpAny P .any ops Q fuel listed a w
  | 0, _, _, _, h => h
  | fuel + 1, _, _, _, h => ⟨h.1, fun i hi => wpOp_mono (fun a' w' h' => wpAny_of_F fuel _ a' w' h'.2) (h.2 i hi)⟩
theorem wpF_pure {fl : Nat → Bool} {i : Nat} {oi : Oper} {v : Value} (hi : ops[i]? = some oi) (hsel : ∀ (j : Nat) (o : Oper) cs b, ops[j]? = some o → o.op ≠ .select cs b)
    (hQ : ∀ c a w, Q (.panic c) (a.put oi.dst v) w → Q (.panic c) a w) :
    ∀ (fuel : Nat) (listed : Array Bool) (a : Act) (w : World),
      (∀ j oj, ops[j]? = some oj → j ≠ i → listed.getD j true = false → (∀ e ∈ oj.after, Region.binds .any e = true → e.on ≠ i) → oi.apart ops oj = true) →
      i ∈ Region.ready .any ops listed → Yields P ops oi v a →
      wpF P ops Q S fl fuel (listed.setIfInBounds i true) (a.put oi.dst v) w → wpF P ops Q S fl (fuel + 1) listed a w := by
  intro fuel
  induction fuel with
  | zero =>
    intro listed a w _ hr hy H
    refine ⟨fun h => (by rw [h] at hr; cases hr), fun j hj => ?_⟩
    by_cases hji : j = i
    · subst hji; exact hy.wpOp hi ⟨fun _ h => h, H⟩
    · have := ready_mono hj hji
      rw [H.1] at this
      cases this
  | succ fuel ih =>
    intro listed a w hfree hr hy H
    refine ⟨fun h => (by rw [h] at hr; cases hr), fun j hj => ?_⟩
    by_cases hji : j = i
    · subst hji; exact hy.wpOp hi ⟨fun _ h => h, H⟩
    · have h1 := H.2 j (ready_mono hj hji)
      obtain ⟨hjun, oj, hoj, hall⟩ := mem_ready.1 hj
      have hnot : ∀ e ∈ oj.after, Region.binds .any e = true → e.on ≠ i := fun e he hb heq => by
        have h1 := hall e he hb
        have h0 := (mem_ready.1 hr).1
        rw [heq] at h1
        rcases Nat.lt_or_ge i listed.size with h' | h'
        · simp [h'] at h0 h1; rw [h0] at h1; cases h1
        · simp [Array.getElem?_eq_none h'] at h1
      have h2 := wpOp_put hoj (hfree j oj hoj hji hjun hnot) (fun cs b => hsel i oi cs b hi) (fun cs b => hsel j oj cs b hoj) hQ hy h1
      have hfree' : ∀ k ok, ops[k]? = some ok → k ≠ i → (listed.setIfInBounds j true).getD k true = false →
          (∀ e ∈ ok.after, Region.binds .any e = true → e.on ≠ i) → oi.apart ops ok = true := fun k ok hk hki hun hno => by
        refine hfree k ok hk hki ?_ hno
        by_cases hjk : j = k
        · subst hjk; exact hjun
        · rw [getD_set_ne true hjk] at hun; exact hun
      refine wpOp_mono (fun a' w' h3 => ⟨h3.2.1, ih (listed.setIfInBounds j true) a' w' hfree' (ready_mono hr (Ne.symm hji)) h3.1 ?_⟩) h2
      rw [Array.setIfInBounds_comm _ _ hji]
      exact h3.2.2
theorem wpF_load {fl : Nat → Bool} {i : Nat} {oi : Oper} {v : Value} (hi : ops[i]? = some oi) (hsel : ∀ (j : Nat) (o : Oper) cs b, ops[j]? = some o → o.op ≠ .select cs b)
    (hQ : ∀ c a w, Q (.panic c) (a.put oi.dst v) w → Q (.panic c) a w) (hfl : ∀ j, j ≠ i → fl j = false → Anc ops j i ∨ Anc ops i j) :
    ∀ (fuel : Nat) (listed : Array Bool) (a : Act) (w : World), Closed ops listed →
      (∀ j oj, ops[j]? = some oj → j ≠ i → listed.getD j true = false → (∀ e ∈ oj.after, Region.binds .any e = true → e.on ≠ i) → oi.apart ops oj = true) →
      i ∈ Region.ready .any ops listed → YieldsIf P ops S oi v a → S w →
      wpF P ops Q S fl fuel (listed.setIfInBounds i true) (a.put oi.dst v) w → wpF P ops Q S fl (fuel + 1) listed a w := by
  intro fuel
  induction fuel with
  | zero =>
    intro listed a w hcl _ hr hy hS H
    refine ⟨fun h => (by rw [h] at hr; cases hr), fun j hj => ?_⟩
    by_cases hji : j = i
    · subst hji; exact hy.wpOp hi hS ⟨fun _ h => h, H⟩
    · have := ready_mono hj hji
      rw [H.1] at this
      cases this
  | succ fuel ih =>
    intro listed a w hcl hfree hr hy hS H
    refine ⟨fun h => (by rw [h] at hr; cases hr), fun j hj => ?_⟩
    by_cases hji : j = i
    · subst hji; exact hy.wpOp hi hS ⟨fun _ h => h, H⟩
    · have h1 := H.2 j (ready_mono hj hji)
      obtain ⟨hjun, oj, hoj, hall⟩ := mem_ready.1 hj
      have unl : ∀ x, listed.getD x true = false → listed.getD x false = true → False := fun x e1 e2 => by
        rcases Nat.lt_or_ge x listed.size with h' | h'
        · simp [Array.getD_eq_getD_getElem?, h'] at e1 e2; rw [e1] at e2; cases e2
        · simp [Array.getD_eq_getD_getElem?, Array.getElem?_eq_none h'] at e2
      have hnot : ∀ e ∈ oj.after, Region.binds .any e = true → e.on ≠ i := fun e he hb heq => unl i (mem_ready.1 hr).1 (heq ▸ hall e he hb)
      have hflj : fl j = true := by
        cases hx : fl j with
        | true => rfl
        | false =>
          rcases hfl j hji hx with hA | hA
          · exact (unl i (mem_ready.1 hr).1 (hA.ready hcl hj)).elim
          · exact (unl j hjun (hA.ready hcl hr)).elim
      have h2 := wpOp_putIf hoj (hfree j oj hoj hji hjun hnot) (fun cs b => hsel i oi cs b hi) (fun cs b => hsel j oj cs b hoj) hQ hy h1
      have hfree' : ∀ k ok, ops[k]? = some ok → k ≠ i → (listed.setIfInBounds j true).getD k true = false →
          (∀ e ∈ ok.after, Region.binds .any e = true → e.on ≠ i) → oi.apart ops ok = true := fun k ok hk hki hun hno => by
        refine hfree k ok hk hki ?_ hno
        by_cases hjk : j = k
        · subst hjk; exact hjun
        · rw [getD_set_ne true hjk] at hun; exact hun
      refine wpOp_mono (fun a' w' h3 => ⟨h3.2.1, ih (listed.setIfInBounds j true) a' w' (hcl.set hj) hfree' (ready_mono hr (Ne.symm hji)) h3.1 (h3.2.1 hflj hS) ?_⟩) h2
      rw [Array.setIfInBounds_comm _ _ hji]
      exact h3.2.2
inductive PT where
  | nil
  | one (d i : Nat) (r : PT)
  | two (a b : PT)
def pre : List (Nat × Nat) → PT → PT
  | [], t => t
  | (d, i) :: r, t => .one d i (pre r t)
def stepsOf (ops : Array Oper) (bs : Array Nat) (loads : List Nat) : PT → Pl
  | .nil => .nil
  | .one d i r => .one d (cond (Nat.beq d 0) (flagOf bs loads i) false) (ops.getD i default) (stepsOf ops bs loads r)
  | .two a b => .two (stepsOf ops bs loads a) (stepsOf ops bs loads b)
def heads : PT → List Nat
  | .one 0 i _ => [i]
  | .two a b => heads a ++ heads b
  | _ => []
def planOK (ops : Array Oper) (bs : Array Nat) (loads : List Nat) : Bool → Array Bool → PT → Bool
  | false, listed, .nil => (Region.ready .any ops listed).isEmpty
  | true, _, .nil => false
  | alt, listed, .one 0 i r => (alt || (Region.ready .any ops listed == [i])) && planOK ops bs loads false (listed.setIfInBounds i true) r
  | false, listed, .one 1 i r => (Region.ready .any ops listed).contains i && Region.free .any ops listed i && planOK ops bs loads false (listed.setIfInBounds i true) r
  | false, listed, .one (_ + 2) i r => (Region.ready .any ops listed).contains i && Region.free .any ops listed i && loads.contains i && planOK ops bs loads false (listed.setIfInBounds i true) r
  | true, _, .one (_ + 1) _ _ => false
  | alt, listed, .two a b => (alt || (!(Region.ready .any ops listed).isEmpty && (Region.ready .any ops listed).all fun i => (heads a ++ heads b).contains i)) && planOK ops bs loads true listed a && planOK ops bs loads true listed b
def deep : Nat → PT → Bool
  | 0, .nil => true
  | n + 1, .one _ _ r => deep n r
  | n, .two a b => deep n a && deep n b
  | _, _ => false
def planFits (ops : Array Oper) (loads : List Nat) (plan : PT) : Bool :=
  Region.noSelect ops && deep ops.size plan && planOK ops (Region.before ops) loads false (Array.replicate ops.size false) plan
theorem flag_anc {loads : List Nat} {i : Nat} (hi : loads.contains i = true) (j : Nat) (hj : j ≠ i) (h : flagOf (Region.before ops) loads j = false) : Anc ops j i ∨ Anc ops i j := by
  have := (List.any_eq_false.1 h) i (by simpa using hi)
  by_cases hb : ((Region.before ops).getD j 0).testBit i = true
  · exact .inl (before_anc hb)
  · by_cases hc : ((Region.before ops).getD i 0).testBit j = true
    · exact .inr (before_anc hc)
    · refine absurd ?_ this
      rw [Bool.not_eq_true] at hb hc
      rw [hb, hc]
      simpa using fun e => hj e.symm
theorem ready_some {listed : Array Bool} {i : Nat} (h : i ∈ Region.ready .any ops listed) : ∃ o, ops[i]? = some o ∧ ops.getD i default = o := by
  obtain ⟨_, o, ho, _⟩ := mem_ready.1 h
  exact ⟨o, ho, by simp [Array.getD_eq_getD_getElem?, ho]⟩
theorem plan_sound {loads : List Nat} (hs : Region.noSelect ops = true) (hQ : ∀ c (a a' : Act) w, a'.defers = a.defers → Q (.panic c) a' w → Q (.panic c) a w) :
    ∀ (plan : PT) (n : Nat) (listed : Array Bool) (a : Act) (w : World), deep n plan = true → Closed ops listed → rwp P ops Q S (stepsOf ops (Region.before ops) loads plan) a w →
      (planOK ops (Region.before ops) loads false listed plan = true → wpF P ops Q S (flagOf (Region.before ops) loads) n listed a w) ∧
      (planOK ops (Region.before ops) loads true listed plan = true → ∀ i ∈ heads plan, i ∈ Region.ready .any ops listed → ∃ m, n = m + 1 ∧
        wpOp P ops Q i (fun a' w' => (flagOf (Region.before ops) loads i = true → S w → S w') ∧ wpF P ops Q S (flagOf (Region.before ops) loads) m (listed.setIfInBounds i true) a' w') a w)
  | .nil, n, listed, a, w, hn, hc, H => by
    refine ⟨fun h => ?_, fun h => by simp [planOK] at h⟩
    cases n with
    | zero => exact ⟨by simpa [planOK] using h, H⟩
    | succ n => simp [deep] at hn
  | .two x y, n, listed, a, w, hn, hc, H => by
    have hn' : deep n x = true ∧ deep n y = true := by cases n <;> simpa [deep] using hn
    have ix := plan_sound hs hQ x n listed a w hn'.1 hc H.1
    have iy := plan_sound hs hQ y n listed a w hn'.2 hc H.2
    have both : planOK ops (Region.before ops) loads true listed x = true → planOK ops (Region.before ops) loads true listed y = true → ∀ i ∈ heads (.two x y), i ∈ Region.ready .any ops listed → ∃ m, n = m + 1 ∧
        wpOp P ops Q i (fun a' w' => (flagOf (Region.before ops) loads i = true → S w → S w') ∧ wpF P ops Q S (flagOf (Region.before ops) loads) m (listed.setIfInBounds i true) a' w') a w := fun h1 h2 i hi hr => by
      rcases List.mem_append.1 hi with q | q
      · exact ix.2 h1 i q hr
      · exact iy.2 h2 i q hr
    constructor
    · intro h
      simp only [planOK, Bool.and_eq_true, Bool.false_or, List.all_eq_true] at h
      obtain ⟨⟨⟨he, h0⟩, h1⟩, h2⟩ := h
      have hmem : ∀ i ∈ Region.ready .any ops listed, i ∈ heads (.two x y) := fun i hi => by simpa [heads] using h0 i hi
      obtain ⟨i0, l0, hr0⟩ : ∃ i l, Region.ready .any ops listed = i :: l := by
        cases hr : Region.ready .any ops listed with
        | nil => rw [hr] at he; simp at he
        | cons i l => exact ⟨i, l, rfl⟩
      cases n with
      | zero =>
        obtain ⟨m, hm, _⟩ := both h1 h2 i0 (hmem i0 (by rw [hr0]; simp)) (by rw [hr0]; simp)
        omega
      | succ n =>
        refine ⟨fun e => (by rw [hr0] at e; cases e), fun i hi => ?_⟩
        obtain ⟨m, hm, q⟩ := both h1 h2 i (hmem i hi) hi
        cases hm
        exact q
    · intro h
      simp only [planOK, Bool.and_eq_true, Bool.true_or, true_and] at h
      exact both h.1 h.2
  | .one d i r, n, listed, a, w, hn, hc, H => by
    have hput : ∀ (a : Act) (x : Option Tmp) (v : Value), (a.put x v).defers = a.defers := fun a x v => by cases x <;> rfl
    obtain ⟨n, rfl⟩ : ∃ m, n = m + 1 := by
      cases n with
      | zero => simp [deep] at hn
      | succ n => exact ⟨n, rfl⟩
    have hn' : deep n r = true := by simpa [deep] using hn
    match d, H with
    | 0, H =>
      have step : i ∈ Region.ready .any ops listed → planOK ops (Region.before ops) loads false (listed.setIfInBounds i true) r = true →
          wpOp P ops Q i (fun a' w' => (flagOf (Region.before ops) loads i = true → S w → S w') ∧ wpF P ops Q S (flagOf (Region.before ops) loads) n (listed.setIfInBounds i true) a' w') a w := fun hm h => by
        obtain ⟨o, ho, hd⟩ := ready_some hm
        simp only [stepsOf, rwp, hd, Nat.beq, cond_true] at H
        unfold wpOp
        simp only [ho]
        split
        · rename_i hw
          rw [if_pos hw] at H
          exact .inl (Oper.wp_mono (fun a' w' q => ⟨fun e _ => q.1 e, (plan_sound hs hQ r n _ a' w' hn' (hc.set hm) q.2).1 h⟩) H)
        · rename_i hw
          rw [if_neg hw] at H
          exact ⟨fun e _ => H.1 e, (plan_sound hs hQ r n _ _ _ hn' (hc.set hm) H.2).1 h⟩
      constructor
      · intro h
        simp only [planOK, Bool.and_eq_true, Bool.false_or, beq_iff_eq] at h
        obtain ⟨hr, h⟩ := h
        refine ⟨fun e => (by rw [hr] at e; cases e), fun j hj => ?_⟩
        have : j = i := by rw [hr] at hj; simpa using hj
        subst this
        exact step hj h
      · intro h j hj hm
        simp only [planOK, Bool.and_eq_true, Bool.true_or, true_and] at h
        have : j = i := by simpa [heads] using hj
        subst this
        exact ⟨n, rfl, step hm h⟩
    | 1, H =>
      refine ⟨fun h => ?_, fun h => by simp [planOK] at h⟩
      simp only [planOK, Bool.and_eq_true] at h
      obtain ⟨⟨hr, hf⟩, h⟩ := h
      have hm : i ∈ Region.ready .any ops listed := by simpa using hr
      obtain ⟨o, ho, hd⟩ := ready_some hm
      simp only [stepsOf, rwp, hd] at H
      obtain ⟨v, hy, H⟩ := H
      exact wpF_pure ho (Region.noSelect_spec hs) (fun c a w q => hQ c _ _ w (hput _ _ _) q) _ listed a w (Region.free_spec ho hf) hm hy ((plan_sound hs hQ r n _ _ _ hn' (hc.set hm) H).1 h)
    | d + 2, H =>
      refine ⟨fun h => ?_, fun h => by simp [planOK] at h⟩
      simp only [planOK, Bool.and_eq_true] at h
      obtain ⟨⟨⟨hr, hf⟩, hl⟩, h⟩ := h
      have hm : i ∈ Region.ready .any ops listed := by simpa using hr
      obtain ⟨o, ho, hd⟩ := ready_some hm
      simp only [stepsOf, rwp, hd] at H
      obtain ⟨hS, v, hy, H⟩ := H
      exact wpF_load ho (Region.noSelect_spec hs) (fun c a w q => hQ c _ _ w (hput _ _ _) q) (flag_anc hl) _ listed a w hc (Region.free_spec ho hf) hm hy hS ((plan_sound hs hQ r n _ _ _ hn' (hc.set hm) H).1 h)
def noDef (o : Oper) : Bool := match o.op with
  | .defer _ => false
  | _ => true
def noDefs : List Oper → Bool
  | [] => true
  | o :: r => noDef o && noDefs r
theorem noDef_ne {o : Oper} (h : noDef o = true) : ∀ c, o.op ≠ .defer c := fun c e => by simp [noDef, e] at h
theorem noDefs_mem : ∀ {l : List Oper}, noDefs l = true → ∀ o ∈ l, noDef o = true
  | [], _, o, h => by cases h
  | x :: l, h, o, hm => by
    simp only [noDefs, Bool.and_eq_true] at h
    rcases List.mem_cons.1 hm with rfl | hm
    · exact h.1
    · exact noDefs_mem h.2 o hm
theorem fen_fn (ro : Option Nat) (f : FuncId) : (fen ro).fn f := by cases ro <;> trivial
theorem fen_depth (ro : Option Nat) : (fen ro).depth.isSome = true → 1 ≤ 0 := by cases ro <;> (intro h; simp [fen, Fence.wide] at h)
theorem calls_fen {ro : Option Nat} {n : Nat} {f : FuncId} {args : Array Value} {w : World} {R : Ending → World → Prop} (h : Calls P f args w R) : CallsIn (fen ro) n P f args w R := by
  cases ro with
  | none => exact callsIn_wide.2 h
  | some l => exact CallsIn.inRound l (callsIn_wide.2 h)
theorem rows_fen {ro : Option Nat} {n : Nat} {row : String} {args : Array Value} {w : World} {R : Value → World → Prop} (h : Rows P row args w R) : RowsIn (fen ro) n P row args w R := fun c cs hr => by
  obtain ⟨v, w', q, s⟩ := h c cs
  refine ⟨v, w', q, ?_⟩
  cases ro with
  | none => exact stepsIn_wide.2 s
  | some l => exact stepsIn_wide.2 s
theorem up_op {ro : Option Nat} {o : Oper} {a : Act} {w : World} {K : Act → World → Prop} (h : o.wp P a w K Q) (hd : noDef o = true) : o.wpIn (fen ro) 0 P a w K Q := by
  refine ⟨fun f _ => fen_fn ro f, ?_⟩
  rw [Oper.semAt_eq _ _ _ (noDef_ne hd)]
  unfold Oper.wp at h
  generalize (execOp a.eval o).run P w = r at *
  cases r with
  | ok x w' =>
    cases x <;> simp only [Oper.upon, Oper.uponIn] at h ⊢ <;>
      first
        | exact h
        | exact ⟨fen_depth ro, calls_fen h⟩
        | exact ⟨fen_depth ro, rows_fen h⟩
  | halt x w' => cases x <;> simp only [Oper.upon, Oper.uponIn] at h ⊢ <;> exact h
theorem up_list {ro : Option Nat} (hno : ¬ LetsOut Q) : ∀ (l : List Oper) (a : Act) (w : World), noDefs l = true → wpList P ops Q l a w → wpListIn (fen ro) 0 P ops Q l a w
  | [], _, _, _, h => h
  | o :: l, a, w, hd, h => by
    simp only [noDefs, Bool.and_eq_true] at hd
    simp only [wpList] at h
    simp only [wpListIn]
    split at h
    · rename_i hw
      rw [if_pos hw]
      refine up_op ?_ hd.1
      rcases h with h | h
      · exact Oper.wp_mono (fun a' w' q => up_list hno l a' w' hd.2 q) h
      · exact absurd h.2 hno
    · rename_i hw
      rw [if_neg hw]
      exact ⟨fun f _ => fen_fn ro f, up_list hno l _ _ hd.2 h⟩
theorem up_yld {ro : Option Nat} {o : Oper} {a : Act} {w : World} {K : Act → World → Prop} (h : o.wpIn Fence.wide 0 P a w K Q) (hd : noDef o = true) : o.wpIn (fen ro) 0 P a w K Q := by
  cases ro with
  | none => exact h
  | some l =>
    refine ⟨fun f _ => trivial, ?_⟩
    have h2 := h.2
    rw [Oper.semAt_eq _ _ _ (noDef_ne hd)] at h2 ⊢
    generalize (execOp a.eval o).run P w = r at *
    cases r with
    | ok x w' => cases x <;> exact h2
    | halt x w' => cases x <;> exact h2
def textStepsY : List Bool → List Oper → Pl
  | _, [] => .nil
  | true :: m, o :: r => .yld o (textStepsY m r)
  | false :: m, o :: r => .one 0 false o (textStepsY m r)
  | [], o :: r => .one 0 false o (textStepsY [] r)
theorem up_textY {ro : Option Nat} : ∀ (m : List Bool) (l : List Oper) (a : Act) (w : World), noDefs l = true → rwp P ops Q S (textStepsY m l) a w → wpListIn (fen ro) 0 P ops Q l a w := by
  have step0 : ∀ (o : Oper) (l : List Oper) (x : Pl) (a : Act) (w : World), noDef o = true → (∀ a' w', rwp P ops Q S x a' w' → wpListIn (fen ro) 0 P ops Q l a' w') → rwp P ops Q S (.one 0 false o x) a w → wpListIn (fen ro) 0 P ops Q (o :: l) a w := fun o l x a w hd ih h => by
    simp only [rwp] at h
    simp only [wpListIn]
    split at h
    · rename_i hw
      rw [if_pos hw]
      exact up_op (Oper.wp_mono (fun a' w' q => ih a' w' q.2) h) hd
    · rename_i hw
      rw [if_neg hw]
      exact ⟨fun f _ => fen_fn ro f, ih _ _ h.2⟩
  intro m l
  induction l generalizing m with
  | nil => intro a w _ h; cases m <;> exact h
  | cons o l ih =>
    intro a w hd h
    simp only [noDefs, Bool.and_eq_true] at hd
    match m, h with
    | [], h => exact step0 o l _ a w hd.1 (fun a' w' q => ih [] a' w' hd.2 q) h
    | false :: m, h => exact step0 o l _ a w hd.1 (fun a' w' q => ih m a' w' hd.2 q) h
    | true :: m, h =>
      simp only [textStepsY, rwp] at h
      simp only [wpListIn]
      split at h
      · rename_i hw
        rw [if_pos hw]
        exact up_yld (Oper.wpIn_mono (fun a' w' q => ih m a' w' hd.2 q) h) hd.1
      · rename_i hw
        rw [if_neg hw]
        exact ⟨fun f _ => fen_fn ro f, ih m _ _ hd.2 h⟩
theorem up_any {ro : Option Nat} (hno : ¬ LetsOut Q) (hd : noDefs ops.toList = true) : ∀ (fuel : Nat) (listed : Array Bool) (a : Act) (w : World), wpAny P .any ops Q fuel listed a w → wpAnyIn (fen ro) 0 P .any ops Q fuel listed a w
  | 0, _, _, _, h => h
  | fuel + 1, listed, a, w, h => ⟨h.1, fun i hi => by
    have h1 := h.2 i hi
    unfold wpOp at h1
    unfold wpOpIn
    split
    · rename_i hn
      simp only [hn] at h1
      exact up_any hno hd fuel _ a w h1
    · rename_i o ho
      simp only [ho] at h1
      have hdo : noDef o = true := noDefs_mem hd o (by rw [Array.mem_toList_iff]; exact Array.mem_of_getElem? ho)
      split
      · rename_i hw
        rw [if_pos hw] at h1
        refine up_op ?_ hdo
        rcases h1 with h1 | h1
        · exact Oper.wp_mono (fun a' w' q => up_any hno hd fuel _ a' w' q) h1
        · exact absurd h1.2 hno
      · rename_i hw
        rw [if_neg hw] at h1
        exact ⟨fun f _ => fen_fn ro f, up_any hno hd fuel _ _ _ h1⟩⟩
theorem wp_region_plan {ro : Option Nat} {id : Nat} {a : Act} {w : World} (loads : List Nat) (plan : PT) (hm : P.follows .mixedOrders = true) (nd : noDefs ops.toList = true) (hno : ¬ LetsOut Q) (hp : planFits ops loads plan = true)
    (hQ : ∀ c (a a' : Act) w, a'.defers = a.defers → Q (.panic c) a' w → Q (.panic c) a w)
    (h : rwp P ops Q S (stepsOf ops (Region.before ops) loads plan) a { w with drawn := w.drawn + 1 }) : (Code.region id ops true).wpIn (fen ro) 0 P Q a w := by
  simp only [planFits, Bool.and_eq_true] at hp
  obtain ⟨⟨h1, h2⟩, h3⟩ := hp
  exact wpIn_region_any hm (up_any hno nd _ _ _ _ (wpAny_of_F _ _ _ _ ((plan_sound h1 hQ plan _ _ a _ h2 (Closed.none _) h).1 h3)))
end
def SatS (Ps : List PA) (Os : List OA) (w : World) : Prop := ∃ hp ho, Sat w hp ho Ps Os
section
variable {C : Ctx} {k : List It} {E : Env} {Ps : List PA} {Os : List OA}
theorem go_region {id : Nat} {ops : Array Oper} (nd : noDefs ops.toList = true) (g : Go C (.ops ops (fun _ => True) (textSteps ops.toList) :: k) E Ps Os) : Go C (.code (.region id ops false) :: k) E Ps Os := fun a w hp ho hf hs hb =>
  wpIn_region_list (up_list (den_no C k) _ _ _ nd (rwp_text _ _ _ (g a w hp ho hf hs hb)))
theorem go_regionY (m : List Bool) {id : Nat} {ops : Array Oper} (nd : noDefs ops.toList = true) (g : Go C (.ops ops (fun _ => True) (textStepsY m ops.toList) :: k) E Ps Os) : Go C (.code (.region id ops false) :: k) E Ps Os := fun a w hp ho hf hs hb =>
  wpIn_region_list (up_textY m _ _ _ nd (g a w hp ho hf hs hb))
theorem Sat.drew {w : World} {hp ho : Heap} (hs : Sat w hp ho Ps Os) : Sat { w with drawn := w.drawn + 1 } hp ho Ps Os := ⟨hs.inp, hs.ino, hs.dj, hs.ps, hs.os⟩
theorem Base.drew {w : World} {hp ho : Heap} (hb : Base C w hp ho) : Base C { w with drawn := w.drawn + 1 } hp ho := ⟨hb.hp0, hb.hf, hb.djp, hb.djo, ⟨hb.rest.os, hb.rest.tape, hb.rest.output, Nat.le_succ_of_le hb.rest.drawn, hb.rest.size⟩⟩
theorem go_draw (kPs : List PA) (kOs : List OA) (loads : List Nat) (plan : PT) {id : Nat} {ops : Array Oper} (hm : C.P.follows .mixedOrders = true) (nd : noDefs ops.toList = true) (hp : planFits ops loads plan = true)
    (g : Go C (.ops ops (SatS kPs kOs) (stepsOf ops (Region.before ops) loads plan) :: k) E Ps Os) : Go C (.code (.region id ops true) :: k) E Ps Os := fun a w hp' ho hf hs hb =>
  wp_region_plan loads plan hm nd (den_no C k) hp (fun c a a' w e q => by
    rw [den_panic] at q
    exact absurd q (C.pan _ _ _)) (g a _ hp' ho hf hs.drew hb.drew)
theorem go_draw' (loads : List Nat) (plan : PT) {id : Nat} {ops : Array Oper} (hm : C.P.follows .mixedOrders = true) (nd : noDefs ops.toList = true) (hp : planFits ops loads plan = true)
    (g : Go C (.ops ops (SatS Ps Os) (stepsOf ops (Region.before ops) loads plan) :: k) E Ps Os) : Go C (.code (.region id ops true) :: k) E Ps Os := go_draw Ps Os loads plan hm nd hp g
end
structure TI where
  u : TypeDesc
  size : Nat
  agg : Bool
  zero : Value
  bytes : Nat
abbrev TB := List (Nat × TI)
def lookT : TB → Nat → Option TI
  | [], _ => none
  | (k, v) :: r, d => cond (Nat.beq k d) (some v) (lookT r d)
structure TOne (P : Program) (t : Nat) (i : TI) : Prop where
  u : P.underlying t = some i.u
  size : ∀ w, (sizeOf t).run P w = .ok i.size w
  agg : ∀ w, (isAgg t).run P w = .ok i.agg w
  zero : ∀ w, (zeroValue t).run P w = .ok i.zero w
  info : ∃ x, P.info? t = some x ∧ x.zero = some i.zero ∧ x.size = i.size ∧ x.bytes = i.bytes
def TOk (P : Program) (tb : TB) : Prop := ∀ t i, lookT tb t = some i → TOne P t i
theorem TOk.nil (P : Program) : TOk P [] := fun _ _ h => by cases h
theorem TOk.cons {P : Program} {t : Nat} {i : TI} {r : TB} (h : TOne P t i) (k : TOk P r) : TOk P ((t, i) :: r) := fun t' i' e => by
  simp only [lookT] at e
  cases hb : Nat.beq t t' with
  | true => rw [hb] at e; simp at e; subst e; rw [← Nat.eq_of_beq_eq_true hb]; exact h
  | false => rw [hb] at e; exact k t' i' e
theorem run_und {P : Program} {t : Nat} {u : TypeDesc} (h : P.underlying t = some u) (w : World) : (underlying t).run P w = .ok u w := by
  simp [underlying, program, Sem.run, h, bind, Sem.bind]
def sameK : IntKind → IntKind → Bool
  | .i8, .i8 | .i16, .i16 | .i32, .i32 | .i64, .i64 | .u8, .u8 | .u16, .u16 | .u32, .u32 | .u64, .u64 => true
  | _, _ => false
theorem sameK_eq {j k : IntKind} (h : sameK j k = true) : j = k := by cases j <;> cases k <;> simp_all [sameK]
def atL {α : Type} : List α → Nat → Option α
  | [], _ => none
  | a :: _, 0 => some a
  | _ :: r, n + 1 => atL r n
theorem atL_eq {α : Type} : ∀ (l : List α) (n : Nat), atL l n = l[n]?
  | [], _ => by simp [atL]
  | _ :: _, 0 => by simp [atL]
  | _ :: r, n + 1 => by simp [atL, atL_eq r n]
def takeL {α : Type} : Nat → List α → Option (List α)
  | 0, _ => some []
  | _ + 1, [] => none
  | n + 1, a :: r => match takeL n r with
    | some l => some (a :: l)
    | none => none
def dropL {α : Type} : Nat → List α → List α
  | 0, l => l
  | _ + 1, [] => []
  | n + 1, _ :: r => dropL n r
theorem dropL_eq {α : Type} : ∀ (n : Nat) (l : List α), dropL n l = l.drop n
  | 0, _ => rfl
  | _ + 1, [] => rfl
  | n + 1, _ :: r => by simp [dropL, dropL_eq n r]
theorem takeL_eq {α : Type} : ∀ {n : Nat} {l r : List α}, takeL n l = some r → r = l.take n ∧ r.length = n
  | 0, l, r, h => by simp [takeL] at h; subst h; simp
  | n + 1, [], r, h => by simp [takeL] at h
  | n + 1, a :: l, r, h => by
    simp only [takeL] at h
    split at h
    · rename_i l' e
      obtain ⟨h1, h2⟩ := takeL_eq e
      cases h
      simp [h1]
      rw [h1] at h2
      simpa using h2
    · cases h
def evs (E : Env) : List Operand → Option (List Value)
  | [] => some []
  | x :: r => match ev E x with
    | none => none
    | some v => match evs E r with
      | none => none
      | some l => some (v :: l)
theorem evs_eq {N : NN} {E : Env} {a : Act} (hf : Fits N E a) : ∀ {l : List Operand} {vs : List Value}, evs E l = some vs → l.map a.eval = vs
  | [], vs, h => by simp [evs] at h; simp [h]
  | x :: r, vs, h => by
    simp only [evs] at h
    split at h
    · cases h
    · rename_i v e1
      split at h
      · cases h
      · rename_i l e2
        cases h
        simp [hf.ev e1, evs_eq hf e2]
def intV (op : BinOp) (k : IntKind) (a b : Int) : Option Value :=
  match op with
  | .add => some (.int k (k.wrap (a + b)))
  | .sub => some (.int k (k.wrap (a - b)))
  | .mul => some (.int k (k.wrap (a * b)))
  | .eql => some (.bool (decide (a = b)))
  | .neq => some (.bool (!decide (a = b)))
  | .lss => some (.bool (decide (a < b)))
  | .leq => some (.bool (decide (a ≤ b)))
  | .gtr => some (.bool (decide (b < a)))
  | .geq => some (.bool (decide (b ≤ a)))
  | .quo => if b = 0 then none else some (.int k (k.wrap (a.tdiv b)))
  | .rem => if b = 0 then none else some (.int k (a.tmod b))
  | .and => some (.int k (k.wrap (BitVec.ofInt k.bits a &&& BitVec.ofInt k.bits b).toNat))
  | .or => some (.int k (k.wrap (BitVec.ofInt k.bits a ||| BitVec.ofInt k.bits b).toNat))
  | .xor => some (.int k (k.wrap (BitVec.ofInt k.bits a ^^^ BitVec.ofInt k.bits b).toNat))
  | .andNot => some (.int k (k.wrap (BitVec.ofInt k.bits a &&& ~~~BitVec.ofInt k.bits b).toNat))
  | .shl => match b with
    | .ofNat n => some (.int k (k.wrap (a * 2 ^ Nat.min n k.bits)))
    | .negSucc _ => none
  | .shr => match b with
    | .ofNat n => some (.int k (a.fdiv (2 ^ Nat.min n k.bits)))
    | .negSucc _ => none
def strV (op : BinOp) (a b : ByteArray) : Option Value :=
  match op with
  | .eql => some (.bool (a.toList == b.toList))
  | .neq => some (.bool (!(a.toList == b.toList)))
  | _ => none
def isShift : BinOp → Bool
  | .shl | .shr => true
  | _ => false
def binV (tb : TB) (op : BinOp) (t : TypeId) : Value → Value → Option Value
  | .int k a, .int k' b => cond (isShift op || sameK k k') (intV op k a b) none
  | .string a, .string b => strV op a b
  | .bool a, .bool b => match lookT tb t with
    | some ⟨.bool, _, _, _, _⟩ => match op with
      | .eql => some (.bool (a == b))
      | .neq => some (.bool (!(a == b)))
      | _ => none
    | _ => none
  | .pointer a, .pointer none => match lookT tb t with
    | some ⟨.pointer _, _, _, _, _⟩ => match op with
      | .eql => some (.bool a.isNone)
      | .neq => some (.bool (!a.isNone))
      | _ => none
    | _ => none
  | .slice a _ _, .slice none _ _ => match lookT tb t with
    | some ⟨.slice _, _, _, _, _⟩ => match op with
      | .eql => some (.bool a.isNone)
      | .neq => some (.bool (!a.isNone))
      | _ => none
    | _ => none
  | _, _ => none
def fieldV (tb : TB) (t : TypeId) (v : Value) (f : Nat) : Option Value :=
  match lookT tb t with
  | some ⟨.struct fs, _, _, _, _⟩ => match atL fs.toList f with
    | some fd => match lookT tb fd.type with
      | some ⟨_, n, true, _, _⟩ => match v with
        | .agg cs => match takeL n (dropL fd.offset cs.toList) with
          | some l => some (.agg l.toArray)
          | none => none
        | _ => none
      | some ⟨_, _, false, _, _⟩ => match v with
        | .agg cs => atL cs.toList fd.offset
        | _ => none
      | none => none
    | none => none
  | _ => none
def fieldAddrV (tb : TB) (t : TypeId) (v : Value) (f : Nat) : Option Value :=
  match lookT tb t with
  | some ⟨.struct fs, _, _, _, _⟩ => match atL fs.toList f with
    | some fd => match lookT tb fd.type with
      | some ⟨_, _ + 1, _, _, _⟩ => match v with
        | .pointer (some ⟨b, o, none⟩) => some (.pointer (some ⟨b, o + fd.offset, none⟩))
        | _ => none
      | _ => none
    | none => none
  | _ => none
def lenV (tb : TB) (t : TypeId) : Value → Option Value
  | .slice _ n _ => match lookT tb t with
    | some ⟨.slice _, _, _, _, _⟩ => some (.int .i64 (n : Int))
    | _ => none
  | .string s => match lookT tb t with
    | some ⟨.string, _, _, _, _⟩ => some (.int .i64 (s.size : Int))
    | _ => none
  | _ => none
def capV (tb : TB) (t : TypeId) : Value → Option Value
  | .slice _ _ n => match lookT tb t with
    | some ⟨.slice _, _, _, _, _⟩ => some (.int .i64 (n : Int))
    | _ => none
  | _ => none
def convV (tb : TB) (s t : TypeId) : Value → Option Value
  | .int _ n => match lookT tb s with
    | some ⟨.int _, _, _, _, _⟩ => match lookT tb t with
      | some ⟨.int k, _, _, _, _⟩ => some (.int k (k.wrap n))
      | _ => none
    | _ => none
  | .string x => match lookT tb s with
    | some ⟨.string, _, _, _, _⟩ => match lookT tb t with
      | some ⟨.string, _, _, _, _⟩ => some (.string x)
      | _ => none
    | _ => none
  | _ => none
def pureOp (tb : TB) (E : Env) (op : Op) : Option Value :=
  match op with
  | .move x => ev E x
  | .assign x => ev E x
  | .pick c x y => match ev E c with
    | some (.bool true) => ev E x
    | some (.bool false) => ev E y
    | _ => none
  | .binOp op t x y _ => match ev E x with
    | some u => match ev E y with
      | some v => binV tb op t u v
      | none => none
    | none => none
  | .unOp .not _ x => match ev E x with
    | some (.bool b) => some (.bool (!b))
    | _ => none
  | .unOp .neg _ x => match ev E x with
    | some (.int k n) => some (.int k (k.wrap (0 - n)))
    | _ => none
  | .convert s t x => match ev E x with
    | some v => convV tb s t v
    | none => none
  | .fieldAddr t x f => match ev E x with
    | some v => fieldAddrV tb t v f
    | none => none
  | .field t x f => match ev E x with
    | some v => fieldV tb t v f
    | none => none
  | .extract x i => match ev E x with
    | some (.tuple vs) => atL vs.toList i
    | _ => none
  | .nilCheck x => match ev E x with
    | some (.pointer (some a)) => some (.pointer (some a))
    | _ => none
  | .makeFunc fn first cap => match evs E first.toList with
    | some l1 => match evs E cap.toList with
      | some l2 => some (.func fn l1.toArray l2.toArray)
      | none => none
    | none => none
  | .call ⟨.builtin .len, args, tys⟩ => match args.toList with
    | [x] => match tys.toList with
      | [t] => match ev E x with
        | some v => lenV tb t v
        | none => none
      | _ => none
    | _ => none
  | .call ⟨.builtin .cap, args, tys⟩ => match args.toList with
    | [x] => match tys.toList with
      | [t] => match ev E x with
        | some v => capV tb t v
        | none => none
      | _ => none
    | _ => none
  | _ => none
section
variable {P : Program} {tb : TB} (ht : TOk P tb) (w : World)
theorem run_intV {op : BinOp} {k k' : IntKind} {a b : Int} {v : Value} (hk : (isShift op || sameK k k') = true) (h : intV op k a b = some v) (t : TypeId) : (binOp op t (.int k a) (.int k' b)).run P w = .ok v w := by
  cases op <;> simp only [isShift, Bool.false_or, Bool.true_or] at hk <;> (try have hk := sameK_eq hk) <;> (try subst hk) <;> simp only [intV] at h
  case shl =>
    cases b with
    | ofNat n => cases h; simp [binOp, Op.shift]; omega
    | negSucc n => cases h
  case shr =>
    cases b with
    | ofNat n => cases h; simp [binOp, Op.shift]; omega
    | negSucc n => cases h
  case quo =>
    split at h
    · cases h
    · rename_i hb; cases h; simp [binOp, Op.intDiv, hb]
  case rem =>
    split at h
    · cases h
    · rename_i hb; cases h; simp [binOp, Op.intDiv, hb]
  all_goals
    cases h
    first
      | (simp [binOp, Op.intArith, Op.intCmp, Op.intBits, bne]; done)
      | (simp [binOp, Op.intArith, Op.intCmp, Op.intBits, bne]; rfl)
theorem run_strV {op : BinOp} {a b : ByteArray} {v : Value} (h : strV op a b = some v) (t : TypeId) : (binOp op t (.string a) (.string b)).run P w = .ok v w := by
  cases op <;> simp only [strV] at h <;> cases h <;> simp [binOp, Op.stringOp]
theorem equal_succ (t : TypeId) (x y : Value) : Op.equal t x y = Op.equalIn (9999 + 1) t x y := rfl
theorem eq_bool {t : TypeId} (h : P.underlying t = some .bool) (d : Nat) (a b : Bool) : (Op.equalIn (d + 1) t (.bool a) (.bool b)).run P w = .ok (a == b) w := by
  have hu := run_und h w
  simp [Op.equalIn, hu]
theorem eq_ptr_none {t e : TypeId} (h : P.underlying t = some (.pointer e)) (d : Nat) (a : Option Addr) : (Op.equalIn (d + 1) t (.pointer a) (.pointer none)).run P w = .ok a.isNone w := by
  have hu := run_und h w
  cases a <;> simp [Op.equalIn, hu]
theorem eq_sl_none {t e : TypeId} (h : P.underlying t = some (.slice e)) (d : Nat) (a : Option Addr) (n c n' c' : Nat) : (Op.equalIn (d + 1) t (.slice a n c) (.slice none n' c')).run P w = .ok a.isNone w := by
  have hu := run_und h w
  cases a <;> simp [Op.equalIn, hu]
include ht in
theorem run_binV {op : BinOp} {t : TypeId} {x y v : Value} (h : binV tb op t x y = some v) : (binOp op t x y).run P w = .ok v w := by
  unfold binV at h
  split at h
  · rename_i k a k' b
    cases hb : (isShift op || sameK k k') with
    | true => rw [hb] at h; exact run_intV w hb h t
    | false => rw [hb] at h; cases h
  · exact run_strV w h t
  · split at h
    · rename_i e
      cases op <;> simp only at h <;> cases h <;> simp only [binOp, equal_succ] <;> simp [eq_bool w (ht _ _ e).u]
    · cases h
  · split at h
    · rename_i e
      cases op <;> simp only at h <;> cases h <;> simp only [binOp, equal_succ] <;> simp [eq_ptr_none w (ht _ _ e).u]
    · cases h
  · split at h
    · rename_i e
      cases op <;> simp only at h <;> cases h <;> simp only [binOp, equal_succ] <;> simp [eq_sl_none w (ht _ _ e).u]
    · cases h
  · cases h
theorem run_guard {op : BinOp} {t : TypeId} {x y : Operand} {a b v : Value} (h : binV tb op t a b = some v) : (eqGuard op t x y a b).run P w = .ok () w := by
  unfold binV at h
  unfold eqGuard
  split at h <;> first | (cases op <;> simp; done) | cases h
theorem run_addOff (b o n : Nat) : (⟨b, o, none⟩ : Addr).add n = ⟨b, o + n, none⟩ := by unfold Addr.add; split <;> simp_all
include ht in
theorem run_fieldAddrV {t f : Nat} {x v : Value} (h : fieldAddrV tb t x f = some v) : (Instr.fieldAt t x f).run P w = .ok v w := by
  unfold fieldAddrV at h
  split at h
  · rename_i e
    split at h
    · rename_i fd e2
      split at h
      · rename_i e3
        split at h
        · cases h
          have hu := run_und (ht _ _ e).u
          have hs := (ht _ _ e3).size
          rw [atL_eq, Array.getElem?_toList] at e2
          simp [Instr.fieldAt, hu, e2, Instr.sureAddr, fieldPlace, hs, run_addOff]
        · cases h
      · cases h
    · cases h
  · cases h
include ht in
theorem run_fieldV {t f : Nat} {x v : Value} (h : fieldV tb t x f = some v) : (Instr.field t x f).run P w = .ok v w := by
  unfold fieldV at h
  split at h
  · rename_i e
    split at h
    · rename_i fd e2
      have hu := run_und (ht _ _ e).u
      rw [atL_eq, Array.getElem?_toList] at e2
      split at h
      · rename_i e3
        have ha := (ht _ _ e3).agg
        have hs := (ht _ _ e3).size
        split at h
        · rename_i cs
          split at h
          · rename_i l e4
            cases h
            obtain ⟨h1, h2⟩ := takeL_eq e4
            rw [dropL_eq] at h1
            simp [Instr.field, hu, e2, asAgg, part, ha, hs]
            apply Array.ext'
            rw [h1]
            simp [List.extract_eq_take_drop]
          · cases h
        · cases h
      · rename_i e3
        have ha := (ht _ _ e3).agg
        split at h
        · rw [atL_eq, Array.getElem?_toList] at h
          simp [Instr.field, hu, e2, asAgg, part, ha, h]
        · cases h
      · cases h
    · cases h
  · cases h
include ht in
theorem run_lenV {t : TypeId} {x v : Value} (h : lenV tb t x = some v) (ty : TypeId) : (Builtin.len_ #[t] ty #[x]).run P w = .ok v w := by
  unfold lenV at h
  split at h
  all_goals
    first
    | (split at h
       · rename_i e
         have hu := run_und (ht _ _ e).u
         cases h
         simp [Builtin.len_, hu, goInt]
       · cases h)
    | cases h
include ht in
theorem run_capV {t : TypeId} {x v : Value} (h : capV tb t x = some v) (ty : TypeId) : (Builtin.cap_ #[t] ty #[x]).run P w = .ok v w := by
  unfold capV at h
  split at h
  all_goals
    first
    | (split at h
       · rename_i e
         have hu := run_und (ht _ _ e).u
         cases h
         simp [Builtin.cap_, hu, goInt]
       · cases h)
    | cases h
include ht in
theorem run_convV {s t : TypeId} {x v : Value} (h : convV tb s t x = some v) : (convert s t x).run P w = .ok v w := by
  unfold convV at h
  split at h
  all_goals
    first
    | (split at h
       · rename_i e1
         split at h
         · rename_i e2
           have hu := run_und (ht _ _ e1).u
           have hv := run_und (ht _ _ e2).u
           cases h
           simp [convert, hu, hv, Conv.intToInt]
         · cases h
       · cases h)
    | cases h
include ht in
theorem run_pure {N : NN} {E : Env} {a : Act} (hf : Fits N E a) {o : Oper} {v : Value} (h : pureOp tb E o.op = some v) : (execOp a.eval o).run P w = .ok (.value v) w := by
  obtain ⟨dst, op, ty, pos, after, guard⟩ := o
  simp only at h
  unfold pureOp at h
  split at h
  · simp [execOp, hf.ev h]
  · simp [execOp, hf.ev h]
  · split at h
    · rename_i e; simp [execOp, hf.ev e, asBool, hf.ev h]
    · rename_i e; simp [execOp, hf.ev e, asBool, hf.ev h]
    · cases h
  · split at h
    · rename_i e1
      split at h
      · rename_i e2
        simp [execOp, hf.ev e1, hf.ev e2, run_guard w h, run_binV ht w h]
      · cases h
    · cases h
  · split at h
    · rename_i e; cases h; simp [execOp, hf.ev e, Op.unary]
    · cases h
  · split at h
    · rename_i e; cases h; simp [execOp, hf.ev e, Op.unary, Op.intArith]
    · cases h
  · split at h
    · rename_i e; simp [execOp, hf.ev e, run_convV ht w h]
    · cases h
  · split at h
    · rename_i e; simp [execOp, hf.ev e, run_fieldAddrV ht w h]
    · cases h
  · split at h
    · rename_i e; simp [execOp, hf.ev e, run_fieldV ht w h]
    · cases h
  · split at h
    · rename_i e
      rw [atL_eq, Array.getElem?_toList] at h
      simp [execOp, hf.ev e, Instr.extract, h]
    · cases h
  · split at h
    · rename_i e; cases h; simp [execOp, hf.ev e]
    · cases h
  · split at h
    · rename_i e1
      split at h
      · rename_i e2
        cases h
        have h1 := evs_eq hf e1
        have h2 := evs_eq hf e2
        simp [execOp, Instr.makeFunc]
        constructor
        · apply Array.ext'; simpa using h1
        · apply Array.ext'; simpa using h2
      · cases h
    · cases h
  · rename_i args tys
    split at h
    · rename_i x ha
      split at h
      · rename_i t hty
        split at h
        · rename_i u e
          have a1 : args = #[x] := by apply Array.ext'; simpa using ha
          have a2 : tys = #[t] := by apply Array.ext'; simpa using hty
          subst a1; subst a2
          simp [execOp, resolve, invoke, builtin, hf.ev e, run_lenV ht w h]
        · cases h
      · cases h
    · cases h
  · rename_i args tys
    split at h
    · rename_i x ha
      split at h
      · rename_i t hty
        split at h
        · rename_i u e
          have a1 : args = #[x] := by apply Array.ext'; simpa using ha
          have a2 : tys = #[t] := by apply Array.ext'; simpa using hty
          subst a1; subst a2
          simp [execOp, resolve, invoke, builtin, hf.ev e, run_capV ht w h]
        · cases h
      · cases h
    · cases h
  · cases h
end
def cellH (h : Heap) (b i : Nat) : Option Value := match h b with
  | some (.cells c _ _) => c[i]?
  | _ => none
theorem cellH_le {h h' : Heap} (hl : h.le h') {b i : Nat} {v : Value} (e : cellH h b i = some v) : cellH h' b i = some v := by
  unfold cellH at *
  cases hb : h b with
  | none => rw [hb] at e; cases e
  | some o => rw [hb] at e; rw [hl _ _ hb]; exact e
theorem cellH_world {w : World} {b i : Nat} {v : Value} (e : cellH (hpOf w) b i = some v) : w.cell? ⟨b, i, none⟩ = some v := by
  unfold cellH hpOf at e
  unfold World.cell?
  cases hb : w.heap[b]? with
  | none => simp only [hb] at e; cases e
  | some o =>
    simp only [hb] at e
    cases o <;> simp_all
def pt (b : Nat) (ty : TypeId) (cs : List Value) : OA := ⟨fun _ ho => ho b = some (.cells cs.toArray ty (0, 0)), fun _ h => h⟩
def cl (b o : Nat) (cs : List Value) : PA := ⟨fun hp => ∀ j v, cs[j]? = some v → cellH hp b (o + j) = some v, fun hl h j v e => cellH_le hl (h j v e)⟩
def At (Ps : List PA) (Os : List OA) (b o n : Nat) (cs : List Value) : Prop :=
  cs.length = n ∧ ∀ (w : World) (hp ho : Heap), Sat w hp ho Ps Os → ∀ j v, cs[j]? = some v → w.cell? ⟨b, o + j, none⟩ = some v
section
variable {C : Ctx} {k : List It} {E : Env} {Ps : List PA} {Os : List OA}
theorem Rem.sep {A : OA} {Os r : List OA} (h : Rem A Os r) {hp ho : Heap} (hs : Sep hp Os ho) : ∃ h1 : Heap, h1.le ho ∧ A.p hp h1 := by
  obtain ⟨h1, _, a, _, _, d, _⟩ := Sep.rem h hs
  exact ⟨h1, a, d⟩
theorem at_pt {b o n : Nat} {ty : TypeId} {cs0 cs : List Value} {r : List OA} (h : Rem (pt b ty cs0) Os r) (e : takeL n (dropL o cs0) = some cs) : At Ps Os b o n cs := ⟨(takeL_eq e).2, fun w hp ho hs j v hj => by
  obtain ⟨h1, l1, d⟩ := h.sep hs.os
  obtain ⟨e1, e2⟩ := takeL_eq e
  rw [dropL_eq] at e1
  refine cellH_world (cellH_le (l1.tr hs.ino) ?_)
  change h1 b = _ at d
  simp only [cellH, d]
  rw [e1, List.getElem?_take] at hj
  split at hj
  · rw [List.getElem?_drop] at hj
    simpa using hj
  · cases hj⟩
theorem at_cl {b o : Nat} (k : Nat) {n : Nat} {cs0 cs : List Value} (h : cl b o cs0 ∈ Ps) (e : takeL n (dropL k cs0) = some cs) : At Ps Os b (o + k) n cs := ⟨(takeL_eq e).2, fun w hp ho hs j v hj => by
  have d := hs.ps _ h
  obtain ⟨e1, e2⟩ := takeL_eq e
  rw [dropL_eq] at e1
  refine cellH_world (cellH_le hs.inp ?_)
  rw [e1, List.getElem?_take] at hj
  split at hj
  · rw [List.getElem?_drop] at hj
    have := d _ _ hj
    rw [Nat.add_assoc]
    exact this
  · cases hj⟩
def packV : Bool → List Value → Option Value
  | true, l => some (.agg l.toArray)
  | false, [v] => some v
  | false, _ => none
theorem loadCells_run {P : Program} {w : World} {b : Nat} : ∀ (n i o : Nat) (cs : List Value) (acc : Array Value), cs.length = n → (∀ j v, cs[j]? = some v → w.cell? ⟨b, o + (i + j), none⟩ = some v) →
    (loadCellsFrom ⟨b, o, none⟩ i n acc).run P w = .ok (acc ++ cs.toArray) w
  | 0, i, o, cs, acc, hl, h => by
    have : cs = [] := List.eq_nil_of_length_eq_zero hl
    subst this
    simp [loadCellsFrom]
  | n + 1, i, o, cs, acc, hl, h => by
    cases cs with
    | nil => simp at hl
    | cons v cs =>
      have h0 := h 0 v (by simp)
      simp only [loadCellsFrom, run_addOff]
      have : (load ⟨b, o + i, none⟩).run P w = .ok v w := by
        simp only [load, Sem.run]
        rw [show o + i = o + (i + 0) from rfl, h0]
      simp only [Sem.run_bind, this, Result.andThen_ok]
      rw [loadCells_run n (i + 1) o cs (acc.push v) (by simpa using hl) (fun j u hj => by
        have := h (j + 1) u (by simpa using hj)
        rw [show o + (i + 1 + j) = o + (i + (j + 1)) from by omega]
        exact this)]
      congr 1
      apply Array.ext'
      simp
theorem loadVar_run {P : Program} {tb : TB} (ht : TOk P tb) {w : World} {t : Nat} {i : TI} (e : lookT tb t = some i) {b o : Nat} {cs : List Value} {v : Value} (hl : cs.length = i.size) (hv : packV i.agg cs = some v)
    (h : ∀ j v, cs[j]? = some v → w.cell? ⟨b, o + j, none⟩ = some v) : (loadVar t ⟨b, o, none⟩).run P w = .ok v w := by
  have ha := (ht _ _ e).agg
  have hs := (ht _ _ e).size
  cases hg : i.agg with
  | true =>
    rw [hg] at ha hv
    simp only [packV, Option.some.injEq] at hv
    subst hv
    simp only [loadVar, Sem.run_bind, ha, Result.andThen_ok, if_true, hs, loadCells]
    rw [loadCells_run i.size 0 o cs #[] hl (fun j v hj => by rw [Nat.zero_add]; exact h j v hj)]
    simp
  | false =>
    rw [hg] at ha hv
    match cs, hv with
    | [u], hv =>
      simp only [packV, Option.some.injEq] at hv
      subst hv
      simp only [loadVar, Sem.run_bind, ha, Result.andThen_ok, Bool.false_eq_true, if_false, load, Sem.run]
      have := h 0 u (by simp)
      simp only [Nat.add_zero] at this
      simp [this]
def wants (ops : Array Oper) (E : Env) (o : Oper) : Option Bool :=
  match o.guard with
  | none => some true
  | some (g, b) => match atL ops.toList g with
    | some og => match og.dst with
      | some t => match look E t with
        | some (.bool x) => match x, b with
          | true, true => some true
          | false, false => some true
          | true, false => some false
          | false, true => some false
        | some (.tuple _) => some false
        | _ => none
      | none => none
    | none => none
theorem wants_eq {N : NN} {a : Act} (hf : Fits N E a) {ops : Array Oper} {o : Oper} {r : Bool} (h : wants ops E o = some r) : Region.wanted o (yielded ops a.tmps) = r := by
  unfold wants at h
  unfold Region.wanted
  split at h
  · rename_i e; rw [e]; cases h; rfl
  · rename_i g b e
    rw [e]
    split at h
    · rename_i og e2
      rw [atL_eq, Array.getElem?_toList] at e2
      split at h
      · rename_i t e3
        split at h
        · rename_i x e4
          have := hf.at_ _ _ e4
          simp only [yielded, e2, Option.bind_some, e3, this]
          split at h <;> cases h <;> rfl
        · rename_i e4
          have := hf.at_ _ _ e4
          simp only [yielded, e2, Option.bind_some, e3, this]
          cases h
          cases b <;> rfl
        · cases h
      · cases h
    · cases h
  
variable {ops : Array Oper} {S : World → Prop} {o : Oper} {r : Pl} {f : Bool}
theorem go_pure0 {tb : TB} (ht : TOk C.P tb) {v : Value} (hw : wants ops E o = some true) (h : pureOp tb E o.op = some v) (hd : okDst C.N o.dst = true)
    (g : Go C (.ops ops S r :: k) (setE o.dst v E) Ps Os) : Go C (.ops ops S (.one 0 false o r) :: k) E Ps Os := fun a w hp ho hf hs hb => by
  show rwp _ _ _ _ _ _ _
  rw [rwp, if_pos (wants_eq hf hw)]
  unfold Oper.wp
  rw [run_pure ht w hf h]
  exact ⟨(fun e => nomatch e), g _ w hp ho (hf.put hd v) hs hb⟩
theorem go_pure1 {tb : TB} (ht : TOk C.P tb) {v : Value} (hw : wants ops E o = some true) (h : pureOp tb E o.op = some v) (hd : okDst C.N o.dst = true)
    (g : Go C (.ops ops S r :: k) (setE o.dst v E) Ps Os) : Go C (.ops ops S (.one 1 f o r) :: k) E Ps Os := fun a w hp ho hf hs hb =>
  ⟨v, .inl ⟨wants_eq hf hw, fun w' => run_pure ht w' hf h⟩, g _ w hp ho (hf.put hd v) hs hb⟩
theorem go_skip0 (hw : wants ops E o = some false) (hd : okDst C.N o.dst = true) (g : Go C (.ops ops S r :: k) (setE o.dst undef E) Ps Os) : Go C (.ops ops S (.one 0 false o r) :: k) E Ps Os := fun a w hp ho hf hs hb => by
  show rwp _ _ _ _ _ _ _
  rw [rwp, if_neg (by rw [wants_eq hf hw]; simp)]
  exact ⟨(fun e => nomatch e), g _ w hp ho (hf.put hd undef) hs hb⟩
theorem go_skip1 (hw : wants ops E o = some false) (hd : okDst C.N o.dst = true) (g : Go C (.ops ops S r :: k) (setE o.dst undef E) Ps Os) : Go C (.ops ops S (.one 1 f o r) :: k) E Ps Os := fun a w hp ho hf hs hb =>
  ⟨undef, .inr ⟨wants_eq hf hw, rfl⟩, g _ w hp ho (hf.put hd undef) hs hb⟩
theorem go_val0 {v : Value} (hw : wants ops E o = some true) (h : ∀ a w hp ho, Fits C.N E a → Sat w hp ho Ps Os → (execOp a.eval o).run C.P w = .ok (.value v) w) (hd : okDst C.N o.dst = true)
    (g : Go C (.ops ops S r :: k) (setE o.dst v E) Ps Os) : Go C (.ops ops S (.one 0 false o r) :: k) E Ps Os := fun a w hp ho hf hs hb => by
  show rwp _ _ _ _ _ _ _
  rw [rwp, if_pos (wants_eq hf hw)]
  unfold Oper.wp
  rw [h a w hp ho hf hs]
  exact ⟨(fun e => nomatch e), g _ w hp ho (hf.put hd v) hs hb⟩
theorem go_val2 {kPs : List PA} {kOs rr : List OA} {n : Nat} {v : Value} (hw : wants ops E o = some true) (h : ∀ a w hp ho, Fits C.N E a → Sat w hp ho kPs kOs → (execOp a.eval o).run C.P w = .ok (.value v) w)
    (hkP : Subs Ps kPs) (hkO : Takes Os kOs rr) (hd : okDst C.N o.dst = true)
    (g : Go C (.ops ops (SatS kPs kOs) r :: k) (setE o.dst v E) Ps Os) : Go C (.ops ops (SatS kPs kOs) (.one (n + 2) f o r) :: k) E Ps Os := fun a w hp ho hf hs hb => by
  obtain ⟨h1, h2, a1, b, c1, d, e⟩ := Sep.takes hkO hs.os
  exact ⟨⟨hp, ho, hs.inp, hs.ino, hs.dj, (hs.ents hkP.ents).ps, Sep.mono a1 d⟩, v, .inl ⟨wants_eq hf hw, fun w' ⟨hp', ho', hs'⟩ => h a w' hp' ho' hf hs'⟩, g _ w hp ho (hf.put hd v) hs hb⟩
theorem load_val {tb : TB} (ht : TOk C.P tb) {t : TypeId} {x : Operand} {i : TI} {b oo : Nat} {cs : List Value} {v : Value} (ho : o.op = .load t x) (hx : ev E x = some (.pointer (some ⟨b, oo, none⟩)))
    (hi : lookT tb t = some i) (hA : At Ps Os b oo i.size cs) (hv : packV i.agg cs = some v) :
    ∀ a w hp ho, Fits C.N E a → Sat w hp ho Ps Os → (execOp a.eval o).run C.P w = .ok (.value v) w := fun a w hp ho' hf hs => by
  have := loadVar_run ht hi hA.1 hv (hA.2 w hp ho' hs)
  simp [execOp, ho, hf.ev hx, Instr.loadAt, Instr.sureAddr, this]
theorem go_skip2 {kPs : List PA} {kOs rr : List OA} {n : Nat} (hw : wants ops E o = some false) (hkP : Subs Ps kPs) (hkO : Takes Os kOs rr) (hd : okDst C.N o.dst = true)
    (g : Go C (.ops ops (SatS kPs kOs) r :: k) (setE o.dst undef E) Ps Os) : Go C (.ops ops (SatS kPs kOs) (.one (n + 2) f o r) :: k) E Ps Os := fun a w hp ho hf hs hb => by
  obtain ⟨h1, h2, a1, b, c1, d, e⟩ := Sep.takes hkO hs.os
  exact ⟨⟨hp, ho, hs.inp, hs.ino, hs.dj, (hs.ents hkP.ents).ps, Sep.mono a1 d⟩, undef, .inr ⟨wants_eq hf hw, rfl⟩, g _ w hp ho (hf.put hd undef) hs hb⟩
theorem go_eff {α : Type} (v : α → Value) (Ps' : α → List PA) (Os' : α → List OA) (hw : wants ops E o = some true) (hd : okDst C.N o.dst = true)
    (h : ∀ a w hp ho, Fits C.N E a → Sat w hp ho Ps Os → Base C w hp ho → ∃ x w' hp' ho', (execOp a.eval o).run C.P w = .ok (.value (v x)) w' ∧ Sat w' hp' ho' (Ps' x) (Os' x) ∧ Base C w' hp' ho')
    (hS : f = true → ∀ x w hp ho, Sat w hp ho (Ps' x) (Os' x) → S w)
    (g : ∀ x, Go C (.ops ops S r :: k) (setE o.dst (v x) E) (Ps' x) (Os' x)) : Go C (.ops ops S (.one 0 f o r) :: k) E Ps Os := fun a w hp ho hf hs hb => by
  show rwp _ _ _ _ _ _ _
  rw [rwp, if_pos (wants_eq hf hw)]
  obtain ⟨x, w', hp', ho', hr, hs', hb'⟩ := h a w hp ho hf hs hb
  unfold Oper.wp
  rw [hr]
  exact ⟨fun e => hS e x w' hp' ho' hs', g x _ w' hp' ho' (hf.put hd _) hs' hb'⟩
theorem go_effU (Ps' : List PA) (Os' : List OA) (hw : wants ops E o = some true) (hd : okDst C.N o.dst = true)
    (h : ∀ a w hp ho, Fits C.N E a → Sat w hp ho Ps Os → Base C w hp ho → ∃ w' hp' ho', (execOp a.eval o).run C.P w = .ok .skip w' ∧ Sat w' hp' ho' Ps' Os' ∧ Base C w' hp' ho')
    (hS : f = true → ∀ w hp ho, Sat w hp ho Ps' Os' → S w)
    (g : Go C (.ops ops S r :: k) (setE o.dst undef E) Ps' Os') : Go C (.ops ops S (.one 0 f o r) :: k) E Ps Os := fun a w hp ho hf hs hb => by
  show rwp _ _ _ _ _ _ _
  rw [rwp, if_pos (wants_eq hf hw)]
  obtain ⟨w', hp', ho', hr, hs', hb'⟩ := h a w hp ho hf hs hb
  unfold Oper.wp
  rw [hr]
  exact ⟨fun e => hS e w' hp' ho' hs', g _ w' hp' ho' (hf.put hd _) hs' hb'⟩
theorem satS {kPs : List PA} {kOs rr : List OA} (hkP : Subs Ps kPs) (hkO : Takes Os kOs rr) (w : World) (hp ho : Heap) (hs : Sat w hp ho Ps Os) : SatS kPs kOs w := by
  obtain ⟨h1, h2, a1, b, c1, d, e⟩ := Sep.takes hkO hs.os
  exact ⟨hp, ho, hs.inp, hs.ino, hs.dj, (hs.ents hkP.ents).ps, Sep.mono a1 d⟩
theorem sat_alloc {w : World} {hp ho : Heap} (hs : Sat w hp ho Ps Os) (hb : Base C w hp ho) (A : OA) (ob : Obj) (hA : ∀ h : Heap, h w.heap.size = some ob → A.p hp h) :
    ∃ ho', Sat { w with heap := w.heap.push ob } hp ho' Ps (A :: Os) ∧ Base C { w with heap := w.heap.push ob } hp ho' := by
  have fresh : ∀ h : Heap, h.le (hpOf w) → h w.heap.size = none := fun h hl => by
    cases e : h w.heap.size with
    | none => rfl
    | some u => have := hl _ _ e; simp [hpOf] at this
  have grow : (hpOf w).le (hpOf { w with heap := w.heap.push ob }) := fun b u e => by
    simp only [hpOf] at e ⊢
    rw [Array.getElem?_push_lt (Array.getElem?_eq_some_iff.1 e).1]
    have := (Array.getElem?_eq_some_iff.1 e).2
    simp [this]
  have new : (Heap.one w.heap.size ob).le (hpOf { w with heap := w.heap.push ob }) := Heap.one_le (by simp [hpOf])
  have d1 : (Heap.one w.heap.size ob).dj ho := Heap.one_dj (fresh _ hs.ino)
  have d2 : (Heap.one w.heap.size ob).dj hp := Heap.one_dj (fresh _ hs.inp)
  have d3 : (Heap.one w.heap.size ob).dj C.hf := Heap.one_dj (fresh _ hb.hf)
  refine ⟨(Heap.one w.heap.size ob).add ho, ⟨hs.inp.tr grow, Heap.add_le new (hs.ino.tr grow), Heap.dj_symm (Heap.add_dj d2 (Heap.dj_symm hs.dj)), hs.ps,
    Heap.one w.heap.size ob, ho, Heap.le_add_left _ _, Heap.le_add_right d1, d1, hA _ (by simp [Heap.one]), hs.os⟩,
    hb.hp0, hb.hf.tr grow, hb.djp, Heap.dj_symm (Heap.add_dj d3 (Heap.dj_symm hb.djo)), hb.rest.os, hb.rest.tape, hb.rest.output, hb.rest.drawn, ?_⟩
  have := hb.rest.size
  simp; omega
def cellsL : Value → List Value
  | .agg cs => cs.toList
  | v => [v]
theorem cellsL_eq (v : Value) : v.cells = (cellsL v).toArray := by cases v <;> simp [Value.cells, cellsL]
theorem takeL_all {α : Type} {n : Nat} {l r : List α} (h : takeL n l = some r) (hl : Nat.beq l.length n = true) : r = l := by
  rw [(takeL_eq h).1, ← Nat.eq_of_beq_eq_true hl, List.take_length]
theorem go_box {tb : TB} (ht : TOk C.P tb) {t : TypeId} {x : Operand} {v : Value} {i : TI} {cs : List Value} (ho : o.op = .box t x) (hw : wants ops E o = some true) (hx : ev E x = some v) (hi : lookT tb t = some i)
    (hc : takeL i.size (cellsL v) = some cs) (hl : Nat.beq (cellsL v).length i.size = true) (hd : okDst C.N o.dst = true)
    (hS : f = true → ∀ b w hp ho, Sat w hp ho Ps (pt b t cs :: Os) → S w)
    (g : ∀ b, Go C (.ops ops S r :: k) (setE o.dst (.pointer (some ⟨b, 0, none⟩)) E) Ps (pt b t cs :: Os)) : Go C (.ops ops S (.one 0 f o r) :: k) E Ps Os :=
  go_eff (fun b => .pointer (some ⟨b, 0, none⟩)) (fun _ => Ps) (fun b => pt b t cs :: Os) hw hd (fun a w hp ho' hf hs hb => by
    obtain rfl := takeL_all hc hl
    obtain ⟨ho2, h1, h2⟩ := sat_alloc hs hb (pt w.heap.size t (cellsL v)) (.cells (cellsL v).toArray t) (fun h e => e)
    refine ⟨w.heap.size, _, hp, ho2, ?_, h1, h2⟩
    simp [execOp, ho, hf.ev hx, Instr.box, newVar, newRow, newObj, Sem.run, cellsL_eq]) hS g
theorem go_alloc {tb : TB} (ht : TOk C.P tb) {t : TypeId} {i : TI} {cs : List Value} (ho : o.op = .alloc t) (hw : wants ops E o = some true) (hi : lookT tb t = some i)
    (hc : takeL i.size (cellsL i.zero) = some cs) (hl : Nat.beq (cellsL i.zero).length i.size = true) (hd : okDst C.N o.dst = true)
    (hS : f = true → ∀ b w hp ho, Sat w hp ho Ps (pt b t cs :: Os) → S w)
    (g : ∀ b, Go C (.ops ops S r :: k) (setE o.dst (.pointer (some ⟨b, 0, none⟩)) E) Ps (pt b t cs :: Os)) : Go C (.ops ops S (.one 0 f o r) :: k) E Ps Os :=
  go_eff (fun b => .pointer (some ⟨b, 0, none⟩)) (fun _ => Ps) (fun b => pt b t cs :: Os) hw hd (fun a w hp ho' hf hs hb => by
    obtain rfl := takeL_all hc hl
    obtain ⟨ho2, h1, h2⟩ := sat_alloc hs hb (pt w.heap.size t (cellsL i.zero)) (.cells (cellsL i.zero).toArray t) (fun h e => e)
    refine ⟨w.heap.size, _, hp, ho2, ?_, h1, h2⟩
    simp [execOp, ho, Instr.alloc, (ht _ _ hi).zero, newVar, newRow, newObj, Sem.run, cellsL_eq]) hS g
def putL {α : Type} : Nat → List α → List α → Option (List α)
  | 0, [], l => some l
  | 0, _ :: _, [] => none
  | 0, v :: vs, _ :: l => match putL 0 vs l with
    | some l' => some (v :: l')
    | none => none
  | _ + 1, _, [] => none
  | n + 1, vs, a :: l => match putL n vs l with
    | some l' => some (a :: l')
    | none => none
def oneCells : List Value → Bool
  | [] => true
  | .agg _ :: _ => false
  | .tuple _ :: _ => false
  | _ :: r => oneCells r
theorem putL_eq {α : Type} : ∀ {n : Nat} {vs l l' : List α}, putL n vs l = some l' → n + vs.length ≤ l.length ∧ l' = l.take n ++ (vs ++ l.drop (n + vs.length))
  | 0, [], l, l', h => by simp [putL] at h; subst h; simp
  | 0, _ :: _, [], l', h => by simp [putL] at h
  | 0, v :: vs, a :: l, l', h => by
    simp only [putL] at h
    split at h
    · rename_i m e
      cases h
      obtain ⟨h1, h2⟩ := putL_eq e
      refine ⟨by simp at h1 ⊢; omega, ?_⟩
      simp [h2]
    · cases h
  | n + 1, vs, [], l', h => by simp [putL] at h
  | n + 1, vs, a :: l, l', h => by
    simp only [putL] at h
    split at h
    · rename_i m e
      cases h
      obtain ⟨h1, h2⟩ := putL_eq e
      refine ⟨by simp; omega, ?_⟩
      rw [h2]
      simp [Nat.add_right_comm n 1]
    · cases h
theorem run_store_one {P : Program} {w : World} {b i : Nat} {c : Array Value} {ty : TypeId} {v : Value} (hb : w.heap[b]? = some (.cells c ty (0, 0))) (hi : i < c.size) (h1 : oneCells [v] = true) :
    (store ⟨b, i, none⟩ v).run P w = .ok () { w with heap := w.heap.setIfInBounds b (.cells (c.setIfInBounds i v) ty (0, 0)) } := by
  have hc : w.cell? ⟨b, i, none⟩ = some c[i] := by simp [World.cell?, hb, hi]
  have hz : w.frozen? ⟨b, i, none⟩ = false := by simp [World.frozen?, hb]
  have hw : w.setCell ⟨b, i, none⟩ v = { w with heap := w.heap.setIfInBounds b (.cells (c.setIfInBounds i v) ty (0, 0)) } := by
    have hlt : b < w.heap.size := (Array.getElem?_eq_some_iff.1 hb).1
    have hg : w.heap[b] = .cells c ty (0, 0) := (Array.getElem?_eq_some_iff.1 hb).2
    unfold World.setCell
    congr 1
    apply Array.ext_getElem?
    intro j
    simp only [Array.getElem?_modify, Array.getElem?_setIfInBounds]
    by_cases e : b = j
    · subst e; simp [hlt, hg]
    · simp [e]
  cases v <;> first | (simp [oneCells] at h1; done) | (simp only [store, Sem.run, hc, hz, hw]; rfl)
theorem run_storeCells {P : Program} {b : Nat} {ty : TypeId} {o : Nat} : ∀ (vs : List Value) (i : Nat) (c : Array Value) (w : World), w.heap[b]? = some (.cells c ty (0, 0)) → o + i + vs.length ≤ c.size → oneCells vs = true →
    ∃ c' : Array Value, (storeCells ⟨b, o, none⟩ vs i).run P w = .ok () { w with heap := w.heap.setIfInBounds b (.cells c' ty (0, 0)) } ∧ c'.toList = c.toList.take (o + i) ++ (vs ++ c.toList.drop (o + i + vs.length))
  | [], i, c, w, hb, hl, h1 => by
    refine ⟨c, ?_, by simp⟩
    simp only [storeCells, Sem.run_pure]
    congr 1
    have hlt : b < w.heap.size := (Array.getElem?_eq_some_iff.1 hb).1
    have hg : w.heap[b] = .cells c ty (0, 0) := (Array.getElem?_eq_some_iff.1 hb).2
    have he : w.heap.setIfInBounds b (.cells c ty (0, 0)) = w.heap := by
      apply Array.ext_getElem?
      intro j
      simp only [Array.getElem?_setIfInBounds]
      by_cases e : b = j
      · subst e; simp [hlt, hg]
      · simp [e]
    rw [he]
  | v :: vs, i, c, w, hb, hl, h1 => by
    have hlt : b < w.heap.size := (Array.getElem?_eq_some_iff.1 hb).1
    have hv : oneCells [v] = true := by cases v <;> simp_all [oneCells]
    have hvs : oneCells vs = true := by cases v <;> simp_all [oneCells]
    simp only [List.length_cons] at hl
    have hr := run_store_one (P := P) (w := w) (b := b) (i := o + i) hb (by omega) hv
    obtain ⟨c', h2, h3⟩ := run_storeCells (P := P) (b := b) (ty := ty) (o := o) vs (i + 1) (c.setIfInBounds (o + i) v) { w with heap := w.heap.setIfInBounds b (.cells (c.setIfInBounds (o + i) v) ty (0, 0)) } (by simp [hlt]) (by simp; omega) hvs
    refine ⟨c', ?_, ?_⟩
    · simp only [storeCells, run_addOff, Sem.run_bind, hr, Result.andThen_ok]
      rw [h2]
      simp
    · rw [h3]
      have hx : (c.setIfInBounds (o + i) v).toList = c.toList.set (o + i) v := by simp
      rw [hx]
      have hlen : o + i < c.toList.length := by simp; omega
      rw [show o + (i + 1) = o + i + 1 from by omega, List.take_succ_eq_append_getElem (by simp; omega)]
      simp only [List.getElem_set_self, List.append_assoc, List.cons_append, List.nil_append, List.length_cons]
      rw [List.take_set_of_le (by omega), List.drop_set_of_lt (by omega), show o + i + 1 + vs.length = o + i + (vs.length + 1) from by omega]
theorem sat_store {w : World} {hp ho : Heap} {b : Nat} {ty : TypeId} {cs cs' : List Value} {rr : List OA} (h : Rem (pt b ty cs) Os rr) (hs : Sat w hp ho Ps Os) (hb : Base C w hp ho) :
    ∃ ho', Sat { w with heap := w.heap.setIfInBounds b (.cells cs'.toArray ty (0, 0)) } hp ho' Ps (pt b ty cs' :: rr) ∧ Base C { w with heap := w.heap.setIfInBounds b (.cells cs'.toArray ty (0, 0)) } hp ho' := by
  obtain ⟨h1, h2, a1, b1, c1, d1, e1⟩ := Sep.rem h hs.os
  change h1 b = _ at d1
  have hbo := a1 _ _ d1
  have hbw := hs.ino _ _ hbo
  have hlt : b < w.heap.size := (Array.getElem?_eq_some_iff.1 hbw).1
  have other : ∀ h : Heap, h.le (hpOf w) → h b = none → h.le (hpOf { w with heap := w.heap.setIfInBounds b (.cells cs'.toArray ty (0, 0)) }) := fun h hl hn x u e => by
    have hx : x ≠ b := fun q => by subst q; rw [hn] at e; cases e
    have := hl _ _ e
    simp only [hpOf] at this ⊢
    rw [Array.getElem?_setIfInBounds_ne (Ne.symm hx)]
    exact this
  have n2 : h2 b = none := by rcases c1 b with q | q; · rw [d1] at q; cases q
                              · exact q
  have np : hp b = none := by rcases hs.dj b with q | q; · exact q
                              · rw [hbo] at q; cases q
  have nf : C.hf b = none := by rcases hb.djo b with q | q; · exact q
                                · rw [hbo] at q; cases q
  have new : (Heap.one b (.cells cs'.toArray ty (0, 0))).le (hpOf { w with heap := w.heap.setIfInBounds b (.cells cs'.toArray ty (0, 0)) }) := Heap.one_le (by simp [hpOf, hlt])
  have dd : (Heap.one b (.cells cs'.toArray ty (0, 0))).dj h2 := Heap.one_dj n2
  refine ⟨(Heap.one b (.cells cs'.toArray ty (0, 0))).add h2, ⟨other hp hs.inp np, Heap.add_le new (other h2 (b1.tr hs.ino) n2), Heap.dj_symm (Heap.add_dj (Heap.one_dj np) (Heap.dj_symm (Heap.dj_le hs.dj (Heap.le_refl _) b1))), hs.ps,
    _, h2, Heap.le_add_left _ _, Heap.le_add_right dd, dd, by simp [pt, Heap.one], e1⟩, hb.hp0, other _ hb.hf nf, hb.djp,
    Heap.dj_symm (Heap.add_dj (Heap.one_dj nf) (Heap.dj_symm (Heap.dj_le hb.djo (Heap.le_refl _) b1))), hb.rest.os, hb.rest.tape, hb.rest.output, hb.rest.drawn, ?_⟩
  have := hb.rest.size
  simpa using this
theorem go_store {tb : TB} (ht : TOk C.P tb) {t : TypeId} {x y : Operand} {i : TI} {b oo : Nat} {ty : TypeId} {v : Value} {cs cs' : List Value} {rr : List OA} (ho : o.op = .store t x y) (hw : wants ops E o = some true)
    (hx : ev E x = some (.pointer (some ⟨b, oo, none⟩))) (hy : ev E y = some v) (hi : lookT tb t = some i) (hd : okDst C.N o.dst = true) (hr : Rem (pt b ty cs) Os rr)
    (hl : Nat.beq (cellsL v).length i.size = true) (h1 : oneCells (cellsL v) = true) (hc : putL oo (cellsL v) cs = some cs')
    (hS : f = true → ∀ w hp ho, Sat w hp ho Ps (pt b ty cs' :: rr) → S w)
    (g : Go C (.ops ops S r :: k) (setE o.dst undef E) Ps (pt b ty cs' :: rr)) : Go C (.ops ops S (.one 0 f o r) :: k) E Ps Os :=
  go_effU Ps (pt b ty cs' :: rr) hw hd (fun a w hp ho' hf hs hb => by
    obtain ⟨h1', _, a1, _, _, d1, _⟩ := Sep.rem hr hs.os
    change h1' b = _ at d1
    have hbw := hs.ino _ _ (a1 _ _ d1)
    obtain ⟨hlen, heq⟩ := putL_eq hc
    obtain ⟨c', hrun, hc'⟩ := run_storeCells (P := C.P) (b := b) (ty := ty) (o := oo) (cellsL v) 0 cs.toArray w hbw (by simpa using hlen) h1
    have : c' = cs'.toArray := by
      apply Array.ext'
      rw [hc', heq]
      simp
    subst this
    obtain ⟨ho2, h2, h3⟩ := sat_store (C := C) (cs' := cs') hr hs hb
    refine ⟨_, hp, ho2, ?_, h2, h3⟩
    have hsz := (ht _ _ hi).size
    have hle := Nat.eq_of_beq_eq_true hl
    simp [execOp, ho, hf.ev hx, hf.ev hy, Instr.storeAt, Instr.sureAddr, storeVar, hsz, cellsL_eq, hle, hrun]) hS g
def calleeOf (E : Env) (c : Call) : Option (FuncId × List Value) :=
  match c.callee with
  | .value x => match ev E x with
    | some (.func (.func g) first cap) => match evs E c.args.toList with
      | some l => some (g, first.toList ++ (l ++ cap.toList))
      | none => none
    | _ => none
  | _ => none
theorem run_callee {N : NN} {a : Act} (hf : Fits N E a) {c : Call} {g : FuncId} {l : List Value} (ho : o.op = .call c) (h : calleeOf E c = some (g, l)) {P : Program}
    (hfn : ∃ fn, P.funcs[g]? = some fn ∧ (fn.name == "runtime.NumGoroutine") = false ∧ fn.body.isNone = false) (w : World) : (execOp a.eval o).run P w = .ok (.enter g l.toArray) w := by
  obtain ⟨fn, h1, h2, h3⟩ := hfn
  obtain ⟨callee, args, tys⟩ := c
  unfold calleeOf at h
  simp only at h
  split at h
  · rename_i x
    split at h
    · rename_i g' first cap e
      split at h
      · rename_i l' e2
        cases h
        have := evs_eq hf e2
        have hargs : first ++ args.map a.eval ++ cap = (first.toList ++ (l' ++ cap.toList)).toArray := by
          apply Array.ext'
          simp [← this]
        have hcf : (callFunc g (first ++ args.map a.eval ++ cap)).run P w = .ok (.enter g (first ++ args.map a.eval ++ cap)) w := by
          simp only [callFunc, program, bind, Sem.bind, Sem.run, h1, h2, h3]
          simp only [Bool.false_eq_true, if_false]
          rfl
        rw [hargs] at hcf
        simp only [execOp, ho, resolve, hf.ev e, Deferred.ofValue, invoke, Sem.run_bind, Sem.run_pure, Result.andThen_ok, hargs, hcf]
      · cases h
    · cases h
  · cases h
theorem go_call {c : Call} {g : FuncId} {l : List Value} {Ps1 : List PA} {Os1 rr : List OA} {Q : Value → List PA → List OA → Prop} (hsp : Spec C.P g l.toArray Ps1 Os1 Q) (ho : o.op = .call c) (hw : wants ops E o = some true)
    (hc : calleeOf E c = some (g, l)) (hd : okDst C.N o.dst = true) (hP : Subs Ps Ps1) (hO : Takes Os Os1 rr)
    (hS : f = true → ∀ v Ps' Os', Q v Ps' Os' → ∀ w hp ho, Sat w hp ho (Ps' ++ Ps) (Os' ++ rr) → S w)
    (g' : ∀ v Ps' Os', Q v Ps' Os' → Go C (.ops ops S r :: k) (setE o.dst v E) (Ps' ++ Ps) (Os' ++ rr)) : Go C (.ops ops S (.one 0 f o r) :: k) E Ps Os := fun a w hp ho' hf hs hb => by
  show rwp _ _ _ _ _ _ _
  rw [rwp, if_pos (wants_eq hf hw)]
  unfold Oper.wp
  rw [run_callee hf ho hc hsp.fn w]
  obtain ⟨h1, h2, a1, b1, c1, d1, e1⟩ := Sep.takes hO hs.os
  refine (hsp.calls w hp h1 (C.hf.add h2) ⟨hs.inp, a1.tr hs.ino, Heap.dj_le hs.dj (Heap.le_refl _) a1, (hs.ents hP.ents).ps, d1⟩ (Heap.add_le hb.hf (b1.tr hs.ino))
    (Heap.add_dj hb.djp (Heap.dj_symm (Heap.dj_le hs.dj (Heap.le_refl _) b1))) (Heap.add_dj (Heap.dj_le hb.djo (Heap.le_refl _) a1) (Heap.dj_symm c1))).mono ?_
  rintro e w' ⟨v, hp', ho2, Ps', Os', rfl, hq, hs', hle, hfl, djp, djo, hrest⟩
  have dfo : C.hf.dj h2 := Heap.dj_le hb.djo (Heap.le_refl _) b1
  have l2 : h2.le (C.hf.add h2) := Heap.le_add_right dfo
  have dA : ho2.dj h2 := Heap.dj_symm (Heap.dj_le djo l2 (Heap.le_refl _))
  have dB : hp'.dj h2 := Heap.dj_symm (Heap.dj_le djp l2 (Heap.le_refl _))
  have sat : Sat w' hp' (ho2.add h2) (Ps' ++ Ps) (Os' ++ rr) := ⟨hs'.inp, Heap.add_le hs'.ino (l2.tr hfl), Heap.dj_symm (Heap.add_dj (Heap.dj_symm hs'.dj) (Heap.dj_symm dB)),
    fun p hp0 => by
      rcases List.mem_append.1 hp0 with q | q
      · exact hs'.ps p q
      · exact p.up hle (hs.ps p q), Sep.app (Heap.le_add_left _ _) (Heap.le_add_right dA) dA hs'.os (Sep.up hle e1)⟩
  have base : Base C w' hp' (ho2.add h2) := ⟨hb.hp0.tr hle, (Heap.le_add_left _ _).tr hfl, Heap.dj_le djp (Heap.le_add_left _ _) (Heap.le_refl _),
    Heap.dj_symm (Heap.add_dj (Heap.dj_symm (Heap.dj_le djo (Heap.le_add_left _ _) (Heap.le_refl _))) (Heap.dj_symm dfo)), hb.rest.trans hrest⟩
  exact ⟨fun e => hS e v Ps' Os' hq w' hp' _ sat, g' v Ps' Os' hq _ w' hp' _ (hf.put hd v) sat base⟩
end
structure Ty (α : Type) where
  size : Nat
  rep : Heap → α → List Value → Prop
  len : ∀ {h x cs}, rep h x cs → cs.length = size
  one : ∀ {h x cs}, rep h x cs → oneCells cs = true
  up : ∀ {h h' : Heap} {x cs}, h.le h' → rep h x cs → rep h' x cs
def Ty.flat {α : Type} (T : Ty α) : Prop := ∀ h h' x cs, T.rep h x cs → T.rep h' x cs
def tInt (k : IntKind) : Ty Int := ⟨1, fun _ x cs => cs = [.int k x], fun h => by subst h; rfl, fun h => by subst h; rfl, fun _ h => h⟩
def tBool : Ty Bool := ⟨1, fun _ x cs => cs = [.bool x], fun h => by subst h; rfl, fun h => by subst h; rfl, fun _ h => h⟩
theorem oneCells_append : ∀ (a b : List Value), oneCells a = true → oneCells b = true → oneCells (a ++ b) = true
  | [], b, _, h => h
  | v :: a, b, h1, h2 => by
    cases v <;> simp only [oneCells, List.cons_append] at h1 ⊢ <;> first | exact oneCells_append a b h1 h2 | cases h1
theorem oneCells_right : ∀ (a b : List Value), oneCells (a ++ b) = true → oneCells b = true
  | [], _, h => h
  | v :: a, b, h => by cases v <;> simp only [oneCells, List.cons_append] at h <;> first | exact oneCells_right a b h | cases h
theorem oneCells_mem : ∀ {cs : List Value}, oneCells cs = true → ∀ u ∈ cs, u.oneCell' = true
  | [], _, u, hu => by cases hu
  | v :: r, h, u, hu => by
    rcases List.mem_cons.1 hu with rfl | hu
    · cases u <;> simp_all [oneCells, Value.oneCell']
    · exact oneCells_mem (by cases v <;> simp_all [oneCells]) u hu
def tPair {α β : Type} (T : Ty α) (U : Ty β) : Ty (α × β) :=
  ⟨T.size + U.size, fun h x cs => ∃ a b, cs = a ++ b ∧ T.rep h x.1 a ∧ U.rep h x.2 b,
    fun ⟨a, b, e, h1, h2⟩ => by subst e; simp [T.len h1, U.len h2],
    fun ⟨a, b, e, h1, h2⟩ => by subst e; exact oneCells_append _ _ (T.one h1) (U.one h2),
    fun hl ⟨a, b, e, h1, h2⟩ => ⟨a, b, e, T.up hl h1, U.up hl h2⟩⟩
def tIso {α β : Type} (T : Ty β) (f : α → β) : Ty α := ⟨T.size, fun h x cs => T.rep h (f x) cs, T.len, T.one, T.up⟩
def Sl {α : Type} (T : Ty α) (h : Heap) (A : Option Addr) (c : Nat) (xs : List α) : Prop :=
  xs.length ≤ c ∧ c ≤ maxLen ∧ (A = none → c = 0) ∧ ∀ j x, xs[j]? = some x → ∃ b o cs, A = some ⟨b, o, none⟩ ∧ T.rep h x cs ∧ ∀ i v, cs[i]? = some v → cellH h b (o + (j * T.size + i)) = some v
theorem Sl.up {α : Type} {T : Ty α} {h h' : Heap} {A : Option Addr} {c : Nat} {xs : List α} (hl : h.le h') (s : Sl T h A c xs) : Sl T h' A c xs :=
  ⟨s.1, s.2.1, s.2.2.1, fun j x hj => by
    obtain ⟨b, o, cs, e, r, hc⟩ := s.2.2.2 j x hj
    exact ⟨b, o, cs, e, T.up hl r, fun i v hi => cellH_le hl (hc i v hi)⟩⟩
def tSl {α : Type} (T : Ty α) : Ty (List α) := ⟨1, fun h xs cs => ∃ A c, cs = [.slice A xs.length c] ∧ Sl T h A c xs, fun ⟨_, _, e, _⟩ => by subst e; rfl, fun ⟨_, _, e, _⟩ => by subst e; rfl,
  fun hl ⟨A, c, e, s⟩ => ⟨A, c, e, s.up hl⟩⟩
def sl {α : Type} (T : Ty α) (A : Option Addr) (c : Nat) (xs : List α) : PA := ⟨fun h => Sl T h A c xs, fun hl h => h.up hl⟩
def rp {α : Type} (T : Ty α) (x : α) (cs : List Value) : PA := ⟨fun h => T.rep h x cs, fun hl h => T.up hl h⟩
section
variable {C : Ctx} {k : List It} {E : Env} {Ps : List PA} {Os : List OA}
theorem go_len {α : Type} {T : Ty α} {A : Option Addr} {c : Nat} {xs : List α} (h : sl T A c xs ∈ Ps) (g : xs.length ≤ c → c ≤ 9223372036854775807 → Go C k E Ps Os) : Go C k E Ps Os :=
  go_fact (φ := xs.length ≤ c ∧ c ≤ maxLen) _ h (fun _ s => ⟨s.1, s.2.1⟩) fun e => g e.1 (by have := e.2; simp only [maxLen] at this; omega)
theorem go_elem {α : Type} {T : Ty α} {A : Option Addr} {c : Nat} {xs : List α} (h : sl T A c xs ∈ Ps) (j : Nat) {x : α} (hj : xs[j]? = some x)
    (g : ∀ b o cs, A = some ⟨b, o, none⟩ → Go C k E (cl b (o + j * T.size) cs :: rp T x cs :: Ps) Os) : Go C k E Ps Os := fun a w hp ho hf hs hb => by
  obtain ⟨b, o, cs, e, r, hc⟩ := (hs.ps _ h).2.2.2 j x hj
  refine g b o cs e a w hp ho hf ⟨hs.inp, hs.ino, hs.dj, ?_, hs.os⟩ hb
  exact forall_cons (fun i v hi => by rw [Nat.add_assoc]; exact hc i v hi) (forall_cons r hs.ps)
theorem go_elem_int {kk : IntKind} {A : Option Addr} {c : Nat} {xs : List Int} (h : sl (tInt kk) A c xs ∈ Ps) (j : Nat) {x : Int} (hj : xs[j]? = some x)
    (g : ∀ b o, A = some ⟨b, o, none⟩ → Go C k E (cl b (o + j * 1) [.int kk x] :: Ps) Os) : Go C k E Ps Os :=
  go_elem h j hj fun b o cs e a w hp ho hf hs hb => by
    have hc : cs = [.int kk x] := hs.ps (rp (tInt kk) x cs) (.tail _ (.head _))
    subst hc
    exact g b o e a w hp ho hf ⟨hs.inp, hs.ino, hs.dj, forall_cons (hs.ps _ (.head _)) fun p hq => hs.ps p (.tail _ (.tail _ hq)), hs.os⟩ hb
variable {o : Oper} {ops : Array Oper} {S : World → Prop} {r : Pl} {f : Bool}
theorem go_val1 {v : Value} (hw : wants ops E o = some true) (h : ∀ a w hp ho, Fits C.N E a → Sat w hp ho [] [] → (execOp a.eval o).run C.P w = .ok (.value v) w) (hd : okDst C.N o.dst = true)
    (g : Go C (.ops ops S r :: k) (setE o.dst v E) Ps Os) : Go C (.ops ops S (.one 1 f o r) :: k) E Ps Os := fun a w hp ho hf hs hb =>
  ⟨v, .inl ⟨wants_eq hf hw, fun w' => h a w' Heap.nil Heap.nil hf ⟨Heap.nil_le _, Heap.nil_le _, Heap.nil_dj _, (fun _ h => nomatch h), trivial⟩⟩, g _ w hp ho (hf.put hd v) hs hb⟩
theorem idx_val {tb : TB} (ht : TOk C.P tb) {t e : TypeId} {x y : Operand} {b oo n c : Nat} {kk : IntKind} {j : Int} {s1 : Nat} {a1 : Bool} {z1 : Value} {y1 : Nat} {i : TI} (ho : o.op = .indexAddr t x y)
    (hx : ev E x = some (.slice (some ⟨b, oo, none⟩) n c)) (hy : ev E y = some (.int kk j)) (hi : lookT tb t = some ⟨.slice e, s1, a1, z1, y1⟩) (he : lookT tb e = some i) (hj : 0 ≤ j ∧ j < n) :
    ∀ a w hp ho, Fits C.N E a → Sat w hp ho Ps Os → (execOp a.eval o).run C.P w = .ok (.value (.pointer (some ⟨b, oo + j.toNat * i.size, none⟩))) w := fun a w hp ho' hf hs => by
  have hu := run_und (ht _ _ hi).u w
  have hs := (ht _ _ he).size w
  simp [execOp, ho, hf.ev hx, hf.ev hy, Instr.indexAt, asIntOf, hu, hj.1, hj.2, hs, run_addOff]
theorem slice_val {tb : TB} (ht : TOk C.P tb) {t e : TypeId} {x : Operand} {lo hi mx : Option Operand} {A : Option Addr} {n c : Nat} {s1 : Nat} {a1 : Bool} {z1 : Value} {y1 : Nat} {i : TI} (ho : o.op = .slice t x lo hi mx)
    (hx : ev E x = some (.slice A n c)) (ht' : lookT tb t = some ⟨.slice e, s1, a1, z1, y1⟩) (he : lookT tb e = some i) {l h m : Nat}
    (hm : match mx with | none => m = c | some q => ∃ kk, ev E q = some (.int kk (m : Int))) (hh : match hi with | none => h = n ∧ mx = none | some q => ∃ kk, ev E q = some (.int kk (h : Int)))
    (hl : match lo with | none => l = 0 | some q => ∃ kk, ev E q = some (.int kk (l : Int))) (b1 : l ≤ h) (b2 : h ≤ m) (b3 : m ≤ c) :
    ∀ a w hp ho, Fits C.N E a → Sat w hp ho Ps Os → (execOp a.eval o).run C.P w = .ok (.value (.slice (if m = l then A else A.map (·.add (l * i.size))) (h - l) (m - l))) w := fun a w hp ho' hf hs => by
  have hu := run_und (ht _ _ ht').u w
  have hs := (ht _ _ he).size w
  have i1 : (m : Int) ≤ c := by omega
  have i2 : (h : Int) ≤ m := by omega
  have i3 : (l : Int) ≤ h := by omega
  have key : (Instr.sliceAt t (.slice A n c) (lo.map a.eval) (hi.map a.eval) (mx.map a.eval)).run C.P w = .ok (.slice (if m = l then A else A.map (·.add (l * i.size))) (h - l) (m - l)) w := by
    cases mx with
    | none =>
      subst hm
      cases hi with
      | none =>
        obtain ⟨rfl, _⟩ := hh
        cases lo with
        | none => subst hl; simp [Instr.sliceAt, Instr.slice, Instr.sliceBounds, hu, hs]
        | some q => obtain ⟨kk, e⟩ := hl; simp [Instr.sliceAt, Instr.slice, Instr.sliceBounds, Instr.sliceBound, asIntOf, hf.ev e, hu, hs, i3, b1]
      | some q2 =>
        obtain ⟨k2, e2⟩ := hh
        cases lo with
        | none => subst hl; simp [Instr.sliceAt, Instr.slice, Instr.sliceBounds, Instr.sliceBound, asIntOf, hf.ev e2, hu, hs, i2, b2]
        | some q => obtain ⟨kk, e⟩ := hl; simp [Instr.sliceAt, Instr.slice, Instr.sliceBounds, Instr.sliceBound, asIntOf, hf.ev e, hf.ev e2, hu, hs, i2, i3, b1, b2]
    | some q3 =>
      obtain ⟨k3, e3⟩ := hm
      cases hi with
      | none => obtain ⟨_, e⟩ := hh; cases e
      | some q2 =>
        obtain ⟨k2, e2⟩ := hh
        cases lo with
        | none => subst hl; simp [Instr.sliceAt, Instr.slice, Instr.sliceBounds, Instr.sliceBound, asIntOf, hf.ev e2, hf.ev e3, hu, hs, i1, i2, b2, b3]
        | some q => obtain ⟨kk, e⟩ := hl; simp [Instr.sliceAt, Instr.slice, Instr.sliceBounds, Instr.sliceBound, asIntOf, hf.ev e, hf.ev e2, hf.ev e3, hu, hs, i1, i2, i3, b1, b2, b3]
  simp [execOp, ho, hf.ev hx, key]
theorem Sl.part {α : Type} {T : Ty α} {hh : Heap} {A : Option Addr} {c : Nat} {xs : List α} (s : Sl T hh A c xs) {l h m : Nat} (b1 : l ≤ h) (b2 : h ≤ m) (b3 : m ≤ c) (hx : h ≤ xs.length) :
    Sl T hh (if m = l then A else A.map (·.add (l * T.size))) (m - l) ((xs.drop l).take (h - l)) := by
  obtain ⟨s1, s2, s3, s4⟩ := s
  refine ⟨by simp; omega, by omega, fun e => ?_, fun j x hj => ?_⟩
  · split at e
    · omega
    · cases A with
      | none => have := s3 rfl; omega
      | some a => simp at e
  · rw [List.getElem?_take] at hj
    split at hj
    · rename_i hlt
      rw [List.getElem?_drop] at hj
      obtain ⟨b, o, cs, e, r, hc⟩ := s4 _ _ hj
      subst e
      have hml : m ≠ l := by omega
      refine ⟨b, o + l * T.size, cs, by simp [hml, run_addOff], r, fun i v hi => ?_⟩
      have := hc i v hi
      rw [Nat.add_mul] at this
      rw [show o + l * T.size + (j * T.size + i) = o + (l * T.size + j * T.size + i) from by omega]
      exact this
    · cases hj
end
def Row (e size : Nat) (A : Option Addr) (n c : Nat) (cs : List Value) (h : Heap) : Prop :=
  cs.length = n * size ∧ n ≤ c ∧ c ≤ maxLen ∧ ((n = 0 ∧ c = 0) ∨ ∃ g cur, A = some ⟨g, 0, none⟩ ∧ h g = some (.cells cur e (0, 0)) ∧ cur.size = c * size ∧ cur.toList.take (n * size) = cs)
def row (e size : Nat) (A : Option Addr) (n c : Nat) (cs : List Value) : OA := ⟨fun _ h => Row e size A n c cs h, fun _ h => h⟩
def Reps {α : Type} (T : Ty α) (h : Heap) : List α → List Value → Prop
  | [], cs => cs = []
  | x :: xs, cs => ∃ a b, cs = a ++ b ∧ T.rep h x a ∧ Reps T h xs b
theorem Reps.up {α : Type} {T : Ty α} {h h' : Heap} (hl : h.le h') : ∀ {xs : List α} {cs : List Value}, Reps T h xs cs → Reps T h' xs cs
  | [], _, e => e
  | _ :: _, _, ⟨a, b, e, r, s⟩ => ⟨a, b, e, T.up hl r, Reps.up hl s⟩
theorem Reps.len {α : Type} {T : Ty α} {h : Heap} : ∀ {xs : List α} {cs : List Value}, Reps T h xs cs → cs.length = xs.length * T.size
  | [], _, e => by cases e; simp
  | _ :: xs, _, ⟨a, b, e, r, s⟩ => by subst e; simp [T.len r, Reps.len s, Nat.add_mul, Nat.add_comm]
theorem Reps.one {α : Type} {T : Ty α} {h : Heap} : ∀ {xs : List α} {cs : List Value}, Reps T h xs cs → oneCells cs = true
  | [], _, e => by cases e; rfl
  | _ :: xs, _, ⟨a, b, e, r, s⟩ => by subst e; exact oneCells_append _ _ (T.one r) (Reps.one s)
theorem Reps.app {α : Type} {T : Ty α} {h : Heap} : ∀ {xs ys : List α} {cs ds : List Value}, Reps T h xs cs → Reps T h ys ds → Reps T h (xs ++ ys) (cs ++ ds)
  | [], _, _, _, e, s => by cases e; exact s
  | _ :: _, _, _, ds, ⟨a, b, e, r, s⟩, t => ⟨a, b ++ ds, by subst e; simp, r, Reps.app s t⟩
theorem Reps.single {α : Type} {T : Ty α} {h : Heap} {x : α} {cs : List Value} (r : T.rep h x cs) : Reps T h [x] cs := ⟨cs, [], by simp, r, rfl⟩
theorem Reps.split {α : Type} {T : Ty α} {h : Heap} : ∀ {xs ys : List α} {cs : List Value}, Reps T h (xs ++ ys) cs → Reps T h xs (cs.take (xs.length * T.size)) ∧ Reps T h ys (cs.drop (xs.length * T.size))
  | [], _, _, s => by simpa [Reps] using s
  | x :: xs, ys, _, ⟨a, b, e, r, s⟩ => by
    subst e
    obtain ⟨h1, h2⟩ := Reps.split s
    have hl := T.len r
    have e1 : (x :: xs).length * T.size = a.length + xs.length * T.size := by simp [hl, Nat.add_mul, Nat.add_comm]
    rw [e1]
    refine ⟨⟨a, b.take (xs.length * T.size), ?_, r, h1⟩, ?_⟩
    · rw [List.take_append, List.take_of_length_le (by omega)]; congr 2; omega
    · rw [List.drop_append, List.drop_of_length_le (by omega)]
      simpa using h2
theorem Reps.at {α : Type} {T : Ty α} {h : Heap} : ∀ {xs : List α} {cs : List Value}, Reps T h xs cs → ∀ j x, xs[j]? = some x → ∃ ds, T.rep h x ds ∧ ∀ i v, ds[i]? = some v → cs[j * T.size + i]? = some v
  | [], _, _, j, x, hj => by simp at hj
  | y :: xs, _, ⟨a, b, e, r, s⟩, 0, x, hj => by
    simp at hj; subst hj
    refine ⟨a, r, fun i v hi => ?_⟩
    subst e
    have : i < a.length := by
      rcases Nat.lt_or_ge i a.length with q | q
      · exact q
      · simp [q] at hi
    simpa [List.getElem?_append_left this] using hi
  | y :: xs, _, ⟨a, b, e, r, s⟩, j + 1, x, hj => by
    obtain ⟨ds, r2, hd⟩ := Reps.at s j x (by simpa using hj)
    refine ⟨ds, r2, fun i v hi => ?_⟩
    subst e
    have := hd i v hi
    have hl := T.len r
    rw [List.getElem?_append_right (by rw [hl, Nat.add_mul]; omega)]
    rw [show (j + 1) * T.size + i - a.length = j * T.size + i from by rw [hl, Nat.add_mul]; omega]
    exact this
def ol {α : Type} (T : Ty α) (e : Nat) (A : Option Addr) (c : Nat) (xs : List α) : OA := ⟨fun hp h => ∃ cs, Row e T.size A xs.length c cs h ∧ Reps T hp xs cs, fun hl ⟨cs, r, s⟩ => ⟨cs, r, s.up hl⟩⟩
def Wr (h : Heap) : Prop := ∀ b o, h b = some o → ∃ c ty, o = .cells c ty (0, 0)
theorem Wr.nil : Wr Heap.nil := fun _ _ e => nomatch e
theorem Wr.add {a b : Heap} (h : Wr a) (g : Wr b) : Wr (a.add b) := fun x o e => by
  unfold Heap.add at e
  cases k : a x with
  | none => rw [k] at e; exact g x o (by simpa using e)
  | some u => rw [k] at e; simp at e; subst e; exact h x u k
theorem Wr.one {b ty : Nat} {c : Array Value} : Wr (Heap.one b (.cells c ty (0, 0))) := fun x o e => by
  unfold Heap.one at e
  split at e
  · cases e; exact ⟨_, _, rfl⟩
  · cases e
def dl {α : Type} (T : Ty α) (e : Nat) (A : Option Addr) (c : Nat) (xs : List α) : OA := ⟨fun _ ho => ∃ (cs : List Value) (h1 h2 : Heap), Heap.le h1 ho ∧ Heap.le h2 ho ∧ Heap.dj h1 h2 ∧ Row e T.size A xs.length c cs h1 ∧ Reps T h2 xs cs ∧ Wr h2, fun _ q => q⟩
def vo {α : Type} (T : Ty α) (x : α) (cs : List Value) : OA := ⟨fun _ h => ∃ h1 : Heap, h1.le h ∧ Wr h1 ∧ T.rep h1 x cs, fun _ h => h⟩
theorem sl_of_row {α : Type} {T : Ty α} {e : Nat} {A : Option Addr} {c : Nat} {xs : List α} {cs : List Value} {h1 h : Heap} (r : Row e T.size A xs.length c cs h1) (hl : h1.le h) (s : Reps T h xs cs) : Sl T h A c xs := by
  obtain ⟨a, b, d, q⟩ := r
  refine ⟨b, d, fun e1 => ?_, fun j x hj => ?_⟩
  · rcases q with q | ⟨g, cur, e2, _⟩
    · exact q.2
    · rw [e1] at e2; cases e2
  · have hlt : j < xs.length := by
      rcases Nat.lt_or_ge j xs.length with q | q
      · exact q
      · simp [q] at hj
    rcases q with q | ⟨g, cur, e1, e2, e3, e4⟩
    · omega
    · obtain ⟨ds, r2, hd⟩ := s.at j x hj
      refine ⟨g, 0, ds, e1, r2, fun i v hi => ?_⟩
      have := hd i v hi
      rw [← e4, List.getElem?_take] at this
      split at this
      · refine cellH_le hl ?_
        simp only [cellH, e2, Nat.zero_add]
        rw [← Array.getElem?_toList]
        exact this
      · cases this
section
variable {C : Ctx} {k : List It} {E : Env} {Ps : List PA} {Os : List OA}
theorem go_freeze_ol {α : Type} {T : Ty α} {e : Nat} {A : Option Addr} {c : Nat} {xs : List α} {r : List OA} (h : Rem (ol T e A c xs) Os r) (g : Go C k E (sl T A c xs :: Ps) r) : Go C k E Ps Os :=
  go_freeze _ (sl T A c xs) h (fun hp h1 H hl hl1 ⟨cs, hr, hs⟩ => sl_of_row hr hl1 (hs.up hl)) g
theorem go_freeze_dl {α : Type} {T : Ty α} {e : Nat} {A : Option Addr} {c : Nat} {xs : List α} {r : List OA} (h : Rem (dl T e A c xs) Os r) (g : Go C k E (sl T A c xs :: Ps) r) : Go C k E Ps Os :=
  go_freeze _ (sl T A c xs) h (fun hp h1 H hl hl1 ⟨cs, g1, g2, a, b, _, hr, hs, _⟩ => sl_of_row hr (a.tr hl1) (hs.up (b.tr hl1))) g
theorem ol_nil {α : Type} (T : Ty α) (e : Nat) (A : Option Addr) (hp h : Heap) : (ol T e A 0 []).p hp h := ⟨[], ⟨by simp, by simp, by simp [maxLen], .inl ⟨rfl, rfl⟩⟩, rfl⟩
theorem dl_nil {α : Type} (T : Ty α) (e : Nat) (A : Option Addr) (hp h : Heap) : (dl T e A 0 []).p hp h := ⟨[], Heap.nil, Heap.nil, Heap.nil_le _, Heap.nil_le _, Heap.nil_dj _, ⟨by simp, by simp, by simp [maxLen], .inl ⟨rfl, rfl⟩⟩, rfl, Wr.nil⟩
theorem go_own_nil {α : Type} (T : Ty α) (e : Nat) (A : Option Addr) (g : Go C k E Ps (ol T e A 0 [] :: Os)) : Go C k E Ps Os := fun a w hp ho hf hs hb =>
  g a w hp ho hf ⟨hs.inp, hs.ino, hs.dj, hs.ps, Heap.nil, ho, Heap.nil_le _, Heap.le_refl _, Heap.nil_dj _, ol_nil T e A _ _, hs.os⟩ hb
theorem go_down_nil {α : Type} (T : Ty α) (e : Nat) (A : Option Addr) (g : Go C k E Ps (dl T e A 0 [] :: Os)) : Go C k E Ps Os := fun a w hp ho hf hs hb =>
  g a w hp ho hf ⟨hs.inp, hs.ino, hs.dj, hs.ps, Heap.nil, ho, Heap.nil_le _, Heap.le_refl _, Heap.nil_dj _, dl_nil T e A _ _, hs.os⟩ hb
theorem run_append_zero {P : Program} {w : World} {t ty e : TypeId} {i : TypeInfo} (ht : P.underlying t = some (.slice e)) (hi : P.info? e = some i) (A B : Option Addr) (n c c2 : Nat) (hn : n ≤ c) :
    (Builtin.append_ #[t, t] ty #[.slice A n c, .slice B 0 c2]).run P w = .ok (.slice A n c) w := by
  cases A <;> cases B <;> simp [Builtin.append_, run_underlying ht, sizeOf, typeInfo, hi, Builtin.lenOf, hn, Builtin.firstCells, loadCells, loadCellsFrom, storeCells]
theorem sat_row_new {w : World} {hp ho : Heap} (hs : Sat w hp ho Ps Os) (hb : Base C w hp ho) {e size n c : Nat} (cs rest : List Value) (hl : cs.length = n * size) (hr : (cs ++ rest).length = c * size) (hn : n ≤ c) (hc : c ≤ maxLen) :
    ∃ ho', Sat { w with heap := w.heap.push (.cells (cs ++ rest).toArray e) } hp ho' Ps (row e size (some ⟨w.heap.size, 0, none⟩) n c cs :: Os) ∧ Base C { w with heap := w.heap.push (.cells (cs ++ rest).toArray e) } hp ho' :=
  sat_alloc hs hb (row e size (some ⟨w.heap.size, 0, none⟩) n c cs) (.cells (cs ++ rest).toArray e) fun h hh =>
    ⟨hl, hn, hc, .inr ⟨w.heap.size, _, rfl, hh, by simpa using hr, by simp [← hl]⟩⟩
theorem sat_append {tb : TB} (ht : TOk C.P tb) {w : World} {hp ho : Heap} {t ty e : TypeId} {s1 : Nat} {a1 : Bool} {z1 : Value} {y1 : Nat} {i : TI} (hi : lookT tb t = some ⟨.slice e, s1, a1, z1, y1⟩) (he : lookT tb e = some i)
    {A : Option Addr} {n c : Nat} {cs : List Value} {r : List OA} (h : Rem (row e i.size A n c cs) Os r) (hs : Sat w hp ho Ps Os) (hb : Base C w hp ho)
    {B : Option Addr} {m c2 : Nat} {news : List Value} (hl : news.length = m * i.size) (hnews : 0 < m → ∃ ad, B = some ad ∧ ∀ j v, news[j]? = some v → w.cell? (ad.add j) = some v) (h1 : oneCells news = true)
    (hz : (cellsL i.zero).length = i.size) (hby : (n + m) * i.bytes ≤ 140737488355328) (h63 : n + m ≤ maxLen) :
    ∃ A' c' w' ho', (Builtin.append_ #[t, t] ty #[.slice A n c, .slice B m c2]).run C.P w = .ok (.slice A' (n + m) c') w' ∧ Sat w' hp ho' Ps (row e i.size A' (n + m) c' (cs ++ news) :: r) ∧ Base C w' hp ho' := by
  obtain ⟨x, hinfo, hx1, hx2, hx3⟩ := (ht _ _ he).info
  have hu := (ht _ _ hi).u
  obtain ⟨g1, g2, la, lb, ldj, lrow, lsep⟩ := Sep.rem h hs.os
  have lrow' : Row e i.size A n c cs g1 := lrow
  obtain ⟨q1, q2, q3, q4⟩ := lrow
  rcases Nat.eq_zero_or_pos m with rfl | hm
  · have : news = [] := List.eq_nil_of_length_eq_zero (by simpa using hl)
    subst this
    refine ⟨A, c, w, ho, run_append_zero hu hinfo A B n c c2 q2, ⟨hs.inp, hs.ino, hs.dj, hs.ps, g1, g2, la, lb, ldj, ?_, lsep⟩, hb⟩
    show Row _ _ _ _ _ _ _
    simpa using lrow'
  · obtain ⟨ad, rfl, hnw⟩ := hnews hm
    by_cases hroom : n + m ≤ c
    · rcases q4 with ⟨_, q5⟩ | ⟨g, cur, rfl, hg, hcur, htake⟩
      · omega
      · have hgw := hs.ino _ _ (la _ _ hg)
        have hlen : n * i.size + news.length ≤ cur.size := by rw [hl, hcur, ← Nat.add_mul]; exact Nat.mul_le_mul_right _ hroom
        have hrun := run_append_room (P := C.P) w t ty e x hu hinfo g n c cur hgw ad m c2 news (by rw [hl, hx2]) hnw (oneCells_mem h1) hroom (by rw [hx2]; exact hlen)
        rw [hx2] at hrun
        have key : w.setRow g (cur.toList.take (n * i.size) ++ news ++ cur.toList.drop (n * i.size + news.length)).toArray = { w with heap := w.heap.setIfInBounds g (.cells (cur.toList.take (n * i.size) ++ news ++ cur.toList.drop (n * i.size + news.length)).toArray e (0, 0)) } := by
          have hlt : g < w.heap.size := (Array.getElem?_eq_some_iff.1 hgw).1
          have hgg : w.heap[g] = .cells cur e (0, 0) := (Array.getElem?_eq_some_iff.1 hgw).2
          unfold World.setRow
          congr 1
          apply Array.ext_getElem?
          intro j
          simp only [Array.getElem?_modify, Array.getElem?_setIfInBounds]
          by_cases ej : g = j
          · subst ej; simp [hlt, hgg]
          · simp [ej]
        rw [key] at hrun
        have hcur' : (.cells cur e (0, 0) : Obj) = .cells cur.toList.toArray e (0, 0) := by simp
        have hrem : Rem (pt g e cur.toList) (pt g e cur.toList :: r) r := .here
        have hs2 : Sat w hp ho Ps (pt g e cur.toList :: r) := ⟨hs.inp, hs.ino, hs.dj, hs.ps, g1, g2, la, lb, ldj, by show g1 g = _; rw [hg, hcur'], lsep⟩
        obtain ⟨ho2, hs3, hb3⟩ := sat_store (C := C) (cs' := cur.toList.take (n * i.size) ++ news ++ cur.toList.drop (n * i.size + news.length)) hrem hs2 hb
        refine ⟨some ⟨g, 0, none⟩, c, _, ho2, hrun, ?_, hb3⟩
        obtain ⟨k1, k2, ka, kb, kdj, kpt, ksep⟩ := hs3.os
        refine ⟨hs3.inp, hs3.ino, hs3.dj, hs3.ps, k1, k2, ka, kb, kdj, ⟨by simp [q1, hl, Nat.add_mul], hroom, q3, .inr ⟨g, _, rfl, kpt, ?_, ?_⟩⟩, ksep⟩
        · simp [List.length_take, List.length_drop]; omega
        · rw [htake]
          have : (n + m) * i.size = (cs ++ news).length := by simp [q1, hl, Nat.add_mul]
          rw [this]
          exact List.take_left
    · have holds : ∀ (b : Addr), A = some b → ∀ j v, cs[j]? = some v → w.cell? (b.add j) = some v := by
        rintro b rfl j v hj
        rcases q4 with ⟨q5, _⟩ | ⟨g, cur, e1, hg, hcur, htake⟩
        · have : cs = [] := List.eq_nil_of_length_eq_zero (by simp [q1, q5])
          subst this; simp at hj
        · cases e1
          rw [run_addOff, Nat.zero_add]
          refine cellH_world (cellH_le (la.tr hs.ino) ?_)
          rw [← htake, List.getElem?_take] at hj
          split at hj
          · simp only [cellH, hg]
            rw [← Array.getElem?_toList]; exact hj
          · cases hj
      have hm63 : ((n + m : Nat) : Int) ≤ 9223372036854775807 := by simp only [maxLen] at h63; omega
      have hcap := grownCap_ge w (n + m) c e
      have hcapm := grownCap_le_maxLen w (n + m) c e h63
      have hzs : (i.zero.cells).size = i.size := by rw [cellsL_eq]; simpa using hz
      have hdrew : ∀ (ob : Obj), (w.drew.alloc ob) = { (({ w with drawn := w.drawn + 1 } : World)) with heap := w.heap.push ob } := fun _ => rfl
      have fin : ∀ (w' : World), w' = w.drew.alloc (.cells (cs.toArray ++ news.toArray ++ Builtin.zeroCells i.zero.cells (grownCap w (n + m) c e - (n + m))) e) →
          ∃ ho', Sat w' hp ho' Ps (row e i.size (some ⟨w.heap.size, 0, none⟩) (n + m) (grownCap w (n + m) c e) (cs ++ news) :: r) ∧ Base C w' hp ho' := by
        rintro w' rfl
        have hs2 : Sat { w with drawn := w.drawn + 1 } hp ho Ps r := ⟨hs.inp, hs.ino, hs.dj, hs.ps, Sep.mono lb lsep⟩
        have := sat_row_new (C := C) (e := e) (size := i.size) (n := n + m) (c := grownCap w (n + m) c e) hs2 hb.drew (cs ++ news) (Builtin.zeroCells i.zero.cells (grownCap w (n + m) c e - (n + m))).toList (by simp [q1, hl, Nat.add_mul]) (by
          simp only [List.length_append, Array.length_toList, size_zeroCells, hzs, q1, hl, ← Nat.add_mul]; congr 1; omega) hcap hcapm
        have hobj : (cs.toArray ++ news.toArray ++ Builtin.zeroCells i.zero.cells (grownCap w (n + m) c e - (n + m))) = (cs ++ news ++ (Builtin.zeroCells i.zero.cells (grownCap w (n + m) c e - (n + m))).toList).toArray := by
          apply Array.ext'; simp
        rw [hdrew, hobj]
        exact this
      obtain ⟨ho2, f1, f2⟩ := fin _ rfl
      refine ⟨_, _, _, ho2, ?_, f1, f2⟩
      cases A with
      | none =>
        have hc0 : n = 0 ∧ c = 0 := by
          rcases q4 with q | ⟨g, cur, e1, _⟩
          · exact q
          · cases e1
        obtain ⟨rfl, rfl⟩ := hc0
        have : cs = [] := List.eq_nil_of_length_eq_zero (by simpa using q1)
        subst this
        have hrun := run_append_nil (P := C.P) w t ty e x i.zero hu hinfo hx1 ad m c2 news (by rw [hl, hx2]) hnw hm (by simpa using hm63) (by rw [hx3]; simp at hby; omega)
        simpa using hrun
      | some b =>
        have hrun := run_append_grow (P := C.P) w t ty e x i.zero hu hinfo hx1 b n c cs (by rw [q1, hx2]) (holds b rfl) ad m c2 news (by rw [hl, hx2]) hnw (by omega) hm63 (by rw [hx3]; exact growslice_fits (by omega) hby)
        exact hrun
end
theorem Sl.cells {α : Type} {T : Ty α} {h : Heap} {B : Option Addr} {c : Nat} {ys : List α} (s : Sl T h B c ys) :
    ∃ news, Reps T h ys news ∧ (0 < ys.length → ∃ b o, B = some ⟨b, o, none⟩ ∧ ∀ j v, news[j]? = some v → cellH h b (o + j) = some v) := by
  cases ys with
  | nil => exact ⟨[], rfl, fun q => by simp at q⟩
  | cons y ys =>
    obtain ⟨b, o, _, e, _, _⟩ := s.2.2.2 0 y (by simp)
    have key : ∀ (zs : List α) (m : Nat), (∀ j x, zs[j]? = some x → ∃ cs, T.rep h x cs ∧ ∀ i v, cs[i]? = some v → cellH h b (o + ((m + j) * T.size + i)) = some v) →
        ∃ news, Reps T h zs news ∧ ∀ j v, news[j]? = some v → cellH h b (o + (m * T.size + j)) = some v := by
      intro zs
      induction zs with
      | nil => exact fun m _ => ⟨[], rfl, fun j v q => by simp at q⟩
      | cons z zs ih =>
        intro m hz
        obtain ⟨cs, r, hc⟩ := hz 0 z (by simp)
        obtain ⟨news, rn, hn⟩ := ih (m + 1) (fun j x hj => by
          obtain ⟨cs, r, hc⟩ := hz (j + 1) x (by simpa using hj)
          exact ⟨cs, r, fun i v hi => by have := hc i v hi; rwa [show m + 1 + j = m + (j + 1) from by omega]⟩)
        refine ⟨cs ++ news, ⟨cs, news, rfl, r, rn⟩, fun j v hj => ?_⟩
        by_cases hlt : j < cs.length
        · rw [List.getElem?_append_left hlt] at hj
          have := hc j v hj
          simpa using this
        · rw [List.getElem?_append_right (by omega)] at hj
          have := hn _ v hj
          have hl := T.len r
          rw [show o + (m * T.size + j) = o + ((m + 1) * T.size + (j - cs.length)) from by rw [Nat.add_mul]; omega]
          exact this
    obtain ⟨news, rn, hn⟩ := key (y :: ys) 0 (fun j x hj => by
      obtain ⟨b', o', cs, e', r, hc⟩ := s.2.2.2 j x hj
      rw [e] at e'; cases e'
      exact ⟨cs, r, fun i v hi => by rw [Nat.zero_add]; exact hc i v hi⟩)
    exact ⟨news, rn, fun _ => ⟨b, o, e, fun j v hj => by have := hn j v hj; simpa using this⟩⟩
section
variable {C : Ctx} {k : List It} {E : Env} {Ps : List PA} {Os : List OA}
variable {o : Oper} {ops : Array Oper} {S : World → Prop} {r : Pl} {f : Bool}
theorem append_exec {N : NN} {a : Act} (hf : Fits N E a) {P : Program} {s x : Operand} {t1 t2 : TypeId} {u v y : Value} {w w' : World} (ho : o.op = .call ⟨.builtin .append, #[s, x], #[t1, t2]⟩) (hs : ev E s = some u) (hx : ev E x = some v)
    (h : (Builtin.append_ #[t1, t2] o.type #[u, v]).run P w = .ok y w') : (execOp a.eval o).run P w = .ok (.value y) w' := by
  simp [execOp, ho, resolve, invoke, builtin, hf.ev hs, hf.ev hx, h]
theorem small_bytes {n m y : Nat} (h : n + m ≤ 1000000000) (hy : Nat.ble y 100000 = true) : (n + m) * y ≤ 140737488355328 := by
  have h1 := Nat.le_of_ble_eq_true hy
  have := Nat.mul_le_mul h h1
  omega
theorem go_appendN {α : Type} {T : Ty α} {tb : TB} (ht : TOk C.P tb) {s x : Operand} {t e : TypeId} {s1 : Nat} {a1 : Bool} {z1 : Value} {y1 : Nat} {i : TI} {A B : Option Addr} {c c2 : Nat} {xs ys : List α} {rr : List OA}
    (ho : o.op = .call ⟨.builtin .append, #[s, x], #[t, t]⟩) (hw : wants ops E o = some true) (hs : ev E s = some (.slice A xs.length c)) (hx : ev E x = some (.slice B ys.length c2)) (hi : lookT tb t = some ⟨.slice e, s1, a1, z1, y1⟩) (he : lookT tb e = some i)
    (hz : Nat.beq (cellsL i.zero).length i.size = true) (hy : Nat.ble i.bytes 100000 = true) (hd : okDst C.N o.dst = true)
    (hr : Rem (ol T e A c xs) Os rr) (hsz : T.size = i.size) (hm : sl T B c2 ys ∈ Ps) (hn : xs.length + ys.length ≤ 1000000000)
    (hS : f = true → ∀ A' c' w hp ho, Sat w hp ho Ps (ol T e A' c' (xs ++ ys) :: rr) → S w)
    (g : ∀ A' c', Go C (.ops ops S r :: k) (setE o.dst (.slice A' (xs ++ ys).length c') E) Ps (ol T e A' c' (xs ++ ys) :: rr)) : Go C (.ops ops S (.one 0 f o r) :: k) E Ps Os :=
  go_eff (α := Option Addr × Nat) (fun q => .slice q.1 (xs ++ ys).length q.2) (fun _ => Ps) (fun q => ol T e q.1 q.2 (xs ++ ys) :: rr) hw hd (fun a w hp ho' hf hs' hb => by
    obtain ⟨news, rn, hnews⟩ := Sl.cells (hs'.ps _ hm)
    obtain ⟨g1, g2, la, lb, ldj, ⟨cs, lrow, lreps⟩, lsep⟩ := Sep.rem hr hs'.os
    have hs2 : Sat w hp ho' Ps (row e i.size A xs.length c cs :: rr) := ⟨hs'.inp, hs'.ino, hs'.dj, hs'.ps, g1, g2, la, lb, ldj, by rw [← hsz]; exact lrow, lsep⟩
    obtain ⟨A', c', w', ho2, h1, h2, h3⟩ := sat_append ht (ty := o.type) hi he .here hs2 hb (B := B) (m := ys.length) (c2 := c2) (news := news) (by rw [← hsz]; exact rn.len) (fun hp0 => by
        obtain ⟨b, oo, e1, hc⟩ := hnews hp0
        exact ⟨_, e1, fun j v hj => by rw [run_addOff]; exact cellH_world (cellH_le hs'.inp (hc j v hj))⟩) rn.one (Nat.eq_of_beq_eq_true hz) (small_bytes hn hy) (by simp only [maxLen]; omega)
    refine ⟨(A', c'), w', hp, ho2, ?_, ?_, h3⟩
    · rw [List.length_append]; exact append_exec hf ho hs hx h1
    · obtain ⟨k1, k2, ka, kb, kdj, krow, ksep⟩ := h2.os
      refine ⟨h2.inp, h2.ino, h2.dj, h2.ps, k1, k2, ka, kb, kdj, ⟨cs ++ news, ?_, lreps.app rn⟩, ksep⟩
      rw [hsz, List.length_append]; exact krow) (fun q x => hS q x.1 x.2) (fun q => g q.1 q.2)
theorem go_append1 {α : Type} {T : Ty α} {tb : TB} (ht : TOk C.P tb) {s x : Operand} {t e : TypeId} {s1 : Nat} {a1 : Bool} {z1 : Value} {y1 : Nat} {i : TI} {A : Option Addr} {c b c2 : Nat} {xs : List α} (y : α) {cs : List Value} {rr r2 : List OA}
    (ho : o.op = .call ⟨.builtin .append, #[s, x], #[t, t]⟩) (hw : wants ops E o = some true) (hs : ev E s = some (.slice A xs.length c)) (hx : ev E x = some (.slice (some ⟨b, 0, none⟩) 1 c2)) (hi : lookT tb t = some ⟨.slice e, s1, a1, z1, y1⟩) (he : lookT tb e = some i)
    (hz : Nat.beq (cellsL i.zero).length i.size = true) (hy : Nat.ble i.bytes 100000 = true) (hd : okDst C.N o.dst = true)
    (hr : Rem (ol T e A c xs) Os rr) (hr2 : Rem (pt b e cs) rr r2) (hsz : T.size = i.size) (hm : Ent Ps (rp T y cs)) (hn : xs.length < 1000000000)
    (hS : f = true → ∀ A' c' w hp ho, Sat w hp ho Ps (ol T e A' c' (xs ++ [y]) :: r2) → S w)
    (g : ∀ A' c', Go C (.ops ops S r :: k) (setE o.dst (.slice A' (xs ++ [y]).length c') E) Ps (ol T e A' c' (xs ++ [y]) :: r2)) : Go C (.ops ops S (.one 0 f o r) :: k) E Ps Os :=
  go_eff (α := Option Addr × Nat) (fun q => .slice q.1 (xs ++ [y]).length q.2) (fun _ => Ps) (fun q => ol T e q.1 q.2 (xs ++ [y]) :: r2) hw hd (fun a w hp ho' hf hs' hb => by
    have hrep : T.rep hp y cs := hm hp hs'.ps
    obtain ⟨g1, g2, la, lb, ldj, ⟨ds, lrow, lreps⟩, lsep⟩ := Sep.rem hr hs'.os
    obtain ⟨g3, g4, la2, lb2, ldj2, lpt, lsep2⟩ := Sep.rem hr2 lsep
    have lpt' : g3 b = some (.cells cs.toArray e (0, 0)) := lpt
    have hs2 : Sat w hp ho' Ps (row e i.size A xs.length c ds :: r2) := ⟨hs'.inp, hs'.ino, hs'.dj, hs'.ps, g1, g4, la, lb2.tr lb, Heap.dj_le ldj (Heap.le_refl _) lb2, by rw [← hsz]; exact lrow, lsep2⟩
    obtain ⟨A', c', w', ho2, h1, h2, h3⟩ := sat_append ht (ty := o.type) hi he .here hs2 hb (B := some ⟨b, 0, none⟩) (m := 1) (c2 := c2) (news := cs) (by rw [T.len hrep, hsz, Nat.one_mul]) (fun _ => ⟨_, rfl, fun j v hj => by
        rw [run_addOff, Nat.zero_add]
        refine cellH_world (cellH_le (la2.tr (lb.tr hs'.ino)) ?_)
        simp only [cellH, lpt']; simpa using hj⟩) (T.one hrep) (Nat.eq_of_beq_eq_true hz) (small_bytes (by omega) hy) (by simp only [maxLen]; omega)
    refine ⟨(A', c'), w', hp, ho2, ?_, ?_, h3⟩
    · rw [List.length_append]; exact append_exec hf ho hs hx h1
    · obtain ⟨k1, k2, ka, kb, kdj, krow, ksep⟩ := h2.os
      refine ⟨h2.inp, h2.ino, h2.dj, h2.ps, k1, k2, ka, kb, kdj, ⟨ds ++ cs, ?_, lreps.app (Reps.single hrep)⟩, ksep⟩
      rw [hsz, List.length_append]; exact krow) (fun q x => hS q x.1 x.2) (fun q => g q.1 q.2)
theorem go_append1d {α : Type} {T : Ty α} {tb : TB} (ht : TOk C.P tb) {s x : Operand} {t e : TypeId} {s1 : Nat} {a1 : Bool} {z1 : Value} {y1 : Nat} {i : TI} {A : Option Addr} {c b c2 : Nat} {xs : List α} (y : α) {cs : List Value} {rr r2 r3 : List OA}
    (ho : o.op = .call ⟨.builtin .append, #[s, x], #[t, t]⟩) (hw : wants ops E o = some true) (hs : ev E s = some (.slice A xs.length c)) (hx : ev E x = some (.slice (some ⟨b, 0, none⟩) 1 c2)) (hi : lookT tb t = some ⟨.slice e, s1, a1, z1, y1⟩) (he : lookT tb e = some i)
    (hz : Nat.beq (cellsL i.zero).length i.size = true) (hy : Nat.ble i.bytes 100000 = true) (hd : okDst C.N o.dst = true)
    (hr : Rem (dl T e A c xs) Os rr) (hr2 : Rem (pt b e cs) rr r2) (hr3 : Rem (vo T y cs) r2 r3) (hsz : T.size = i.size) (hn : xs.length < 1000000000)
    (hS : f = true → ∀ A' c' w hp ho, Sat w hp ho Ps (dl T e A' c' (xs ++ [y]) :: r3) → S w)
    (g : ∀ A' c', Go C (.ops ops S r :: k) (setE o.dst (.slice A' (xs ++ [y]).length c') E) Ps (dl T e A' c' (xs ++ [y]) :: r3)) : Go C (.ops ops S (.one 0 f o r) :: k) E Ps Os :=
  go_eff (α := Option Addr × Nat) (fun q => .slice q.1 (xs ++ [y]).length q.2) (fun _ => Ps) (fun q => dl T e q.1 q.2 (xs ++ [y]) :: r3) hw hd (fun a w hp ho' hf hs' hb => by
    obtain ⟨g1, g2, la, lb, ldj, ⟨ds, f1, f2, fa, fb, fdj, lrow, lreps, lwr⟩, lsep⟩ := Sep.rem hr hs'.os
    obtain ⟨g3, g4, la2, lb2, ldj2, lpt, lsep2⟩ := Sep.rem hr2 lsep
    obtain ⟨g5, g6, la3, lb3, ldj3, lvo, lsep3⟩ := Sep.rem hr3 lsep2
    obtain ⟨g7, l7, w7, lvo'⟩ := lvo
    have lpt' : g3 b = some (.cells cs.toArray e (0, 0)) := lpt
    let R1 : OA := ⟨fun _ h => ∃ h1 : Heap, h1.le h ∧ Wr h1 ∧ Reps T h1 xs ds, fun _ q => q⟩
    have d12 : g1.dj g4 := Heap.dj_le ldj (Heap.le_refl _) lb2
    have hs2 : Sat w hp ho' Ps (row e i.size A xs.length c ds :: R1 :: vo T y cs :: r3) := ⟨hs'.inp, hs'.ino, hs'.dj, hs'.ps, f1, f2.add g4, fa.tr la, Heap.add_le (fb.tr la) (lb2.tr lb),
      Heap.dj_symm (Heap.add_dj (Heap.dj_symm fdj) (Heap.dj_symm (Heap.dj_le d12 fa (Heap.le_refl _)))), by rw [← hsz]; exact lrow,
      f2, g4, Heap.le_add_left _ _, Heap.le_add_right (Heap.dj_le d12 fb (Heap.le_refl _)), Heap.dj_le d12 fb (Heap.le_refl _), ⟨f2, Heap.le_refl _, lwr, lreps⟩, g5, g6, la3, lb3, ldj3, ⟨g7, l7, w7, lvo'⟩, lsep3⟩
    obtain ⟨A', c', w', ho2, h1, h2, h3⟩ := sat_append ht (ty := o.type) hi he .here hs2 hb (B := some ⟨b, 0, none⟩) (m := 1) (c2 := c2) (news := cs) (by rw [T.len lvo', hsz, Nat.one_mul]) (fun _ => ⟨_, rfl, fun j v hj => by
        rw [run_addOff, Nat.zero_add]
        refine cellH_world (cellH_le (la2.tr (lb.tr hs'.ino)) ?_)
        simp only [cellH, lpt']; simpa using hj⟩) (T.one lvo') (Nat.eq_of_beq_eq_true hz) (small_bytes (by omega) hy) (by simp only [maxLen]; omega)
    refine ⟨(A', c'), w', hp, ho2, ?_, ?_, h3⟩
    · rw [List.length_append]; exact append_exec hf ho hs hx h1
    · obtain ⟨k1, k2, ka, kb, kdj, krow, m1, m2, ma, mb, mdj, mreps, n1, n2, na, nb, ndj, nvo, nsep⟩ := h2.os
      obtain ⟨m3, lm3, wm3, mreps'⟩ := mreps
      obtain ⟨n3, ln3, wn3, nvo'⟩ := nvo
      have dk : k1.dj m2 := Heap.dj_le kdj (Heap.le_refl _) mb
      have dm : m1.dj n1 := Heap.dj_le mdj (Heap.le_refl _) na
      have dx : m1.dj n2 := Heap.dj_le mdj (Heap.le_refl _) nb
      have dy : k1.dj m1 := Heap.dj_le kdj (Heap.le_refl _) ma
      have dz : k1.dj n1 := Heap.dj_le dk (Heap.le_refl _) na
      have dw : k1.dj n2 := Heap.dj_le dk (Heap.le_refl _) nb
      have d3 : k1.dj (m3.add n3) := Heap.dj_symm (Heap.add_dj (Heap.dj_symm (Heap.dj_le dy (Heap.le_refl _) lm3)) (Heap.dj_symm (Heap.dj_le dz (Heap.le_refl _) ln3)))
      have lmn : (m3.add n3).le ho2 := Heap.add_le (lm3.tr (ma.tr kb)) (ln3.tr (na.tr (mb.tr kb)))
      have dm3 : m3.dj n3 := Heap.dj_le dm lm3 ln3
      refine ⟨h2.inp, h2.ino, h2.dj, h2.ps, k1.add (m3.add n3), n2, Heap.add_le ka lmn, nb.tr (mb.tr kb), Heap.add_dj dw (Heap.add_dj (Heap.dj_le dx lm3 (Heap.le_refl _)) (Heap.dj_le ndj ln3 (Heap.le_refl _))),
        ⟨ds ++ cs, k1, m3.add n3, Heap.le_add_left _ _, Heap.le_add_right d3, d3, ?_, (mreps'.up (Heap.le_add_left _ _)).app (Reps.single (T.up (Heap.le_add_right dm3) nvo')), wm3.add wn3⟩, nsep⟩
      rw [hsz, List.length_append]; exact krow) (fun q x => hS q x.1 x.2) (fun q => g q.1 q.2)
end
def appO {α : Type} : List α → List α → Option (List α)
  | [], b => some b
  | x :: a, b => match appO a b with
    | some l => some (x :: l)
    | none => none
theorem appO_eq {α : Type} : ∀ (a b : List α), appO a b = some (a ++ b)
  | [], _ => rfl
  | x :: a, b => by simp [appO, appO_eq a b]
def bcells (size : Nat) (E : Env) : Nat → List (Nat × Operand) → Option (List Value)
  | _, [] => some []
  | k, (j, x) :: r => cond (Nat.beq j k) (match ev E x with
    | none => none
    | some v => match takeL size (cellsL v) with
      | none => none
      | some a => cond (Nat.beq (cellsL v).length size) (match bcells size E (k + 1) r with
        | none => none
        | some b => appO a b) none) none
theorem foldl_set (off : Nat) : ∀ (l : List Value) (kk : Nat) (cells : Array Value), off + kk + l.length ≤ cells.size →
    ((l.zipIdx kk).foldl (fun cs (p : Value × Nat) => cs.setIfInBounds (off + p.2) p.1) cells).toList = cells.toList.take (off + kk) ++ (l ++ cells.toList.drop (off + kk + l.length))
  | [], kk, cells, _ => by simp
  | v :: l, kk, cells, h => by
    simp only [List.length_cons] at h
    simp only [List.zipIdx_cons, List.foldl_cons]
    rw [foldl_set off l (kk + 1) _ (by simp; omega)]
    have hx : (cells.setIfInBounds (off + kk) v).toList = cells.toList.set (off + kk) v := by simp
    rw [hx, show off + (kk + 1) = off + kk + 1 from by omega, List.take_succ_eq_append_getElem (by simp; omega)]
    simp only [List.getElem_set_self, List.append_assoc, List.cons_append, List.nil_append, List.length_cons]
    rw [List.take_set_of_le (by omega), List.drop_set_of_lt (by omega), show off + kk + 1 + l.length = off + kk + (l.length + 1) from by omega]
theorem fill_cells (off : Nat) (v : Value) (cells : Array Value) (h : off + (cellsL v).length ≤ cells.size) :
    (v.cells.zipIdx.foldl (fun cs (c, j) => cs.setIfInBounds (off + j) c) cells).toList = cells.toList.take off ++ (cellsL v ++ cells.toList.drop (off + (cellsL v).length)) := by
  have := foldl_set off (cellsL v) 0 cells (by simpa using h)
  rw [← Array.foldl_toList, Array.toList_zipIdx, cellsL_eq]
  simpa using this
theorem fill_cells' (off : Nat) (v : Value) (cells : Array Value) (pre m rest : List Value) (hc : cells.toList = pre ++ (m ++ rest)) (h1 : pre.length = off) (h2 : m.length = (cellsL v).length) :
    (v.cells.zipIdx.foldl (fun cs p => cs.setIfInBounds (off + p.2) p.1) cells).toList = pre ++ (cellsL v ++ rest) := by
  have hs : cells.size = pre.length + (m.length + rest.length) := by rw [← Array.length_toList, hc]; simp
  have := fill_cells off v cells (by omega)
  rw [hc] at this
  refine this.trans ?_
  rw [← h1, ← h2, List.take_left, ← List.append_assoc pre m rest, ← List.length_append, List.drop_left]
theorem fill_run {N : NN} {E : Env} {a : Act} (hf : Fits N E a) {size : Nat} : ∀ (l : List (Nat × Operand)) (kk : Nat) (cs : List Value) (cells : Array Value) (pre mid post : List Value), bcells size E kk l = some cs →
    cells.toList = pre ++ (mid ++ post) → pre.length = kk * size → mid.length = cs.length →
    ∃ out, Instr.fill (fun i => some (i * size, size)) cells (l.map fun p => (p.1, a.eval p.2)) = some out ∧ out.toList = pre ++ (cs ++ post)
  | [], kk, cs, cells, pre, mid, post, h, hc, _, hm => by
    simp [bcells] at h
    subst h
    have : mid = [] := List.eq_nil_of_length_eq_zero (by simpa using hm)
    subst this
    exact ⟨cells, rfl, by simpa using hc⟩
  | (j, x) :: l, kk, cs, cells, pre, mid, post, h, hc, hp, hm => by
    simp only [bcells] at h
    cases hj : Nat.beq j kk with
    | false => rw [hj] at h; cases h
    | true =>
      rw [hj] at h
      have := Nat.eq_of_beq_eq_true hj
      subst this
      simp only [cond_true] at h
      split at h
      · cases h
      · rename_i v e1
        split at h
        · cases h
        · rename_i a0 e2
          cases hq : Nat.beq (cellsL v).length size with
          | false => rw [hq] at h; cases h
          | true =>
            rw [hq] at h
            have hlen := Nat.eq_of_beq_eq_true hq
            have ha0 := takeL_all e2 hq
            subst ha0
            simp only [cond_true] at h
            split at h
            · cases h
            · rename_i b0 e3
              rw [appO_eq] at h
              cases h
              simp only [List.length_append] at hm
              have hmid : mid = mid.take size ++ mid.drop size := (List.take_append_drop _ _).symm
              have hc2 : cells.toList = pre ++ (mid.take size ++ (mid.drop size ++ post)) := by rw [hc, ← List.append_assoc (mid.take size), List.take_append_drop]
              have hfc := fill_cells' (j * size) v cells pre (mid.take size) (mid.drop size ++ post) hc2 hp (by simp; omega)
              obtain ⟨out, h1, h2⟩ := fill_run hf l (j + 1) b0 (v.cells.zipIdx.foldl (fun cs p => cs.setIfInBounds (j * size + p.2) p.1) cells) (pre ++ cellsL v) (mid.drop size) post e3
                (by rw [hfc]; simp) (by simp [hp, hlen, Nat.add_mul]) (by simp; omega)
              refine ⟨out, ?_, by rw [h2]; simp⟩
              simp only [List.map_cons, Instr.fill, hf.ev e1]
              have hsz : v.cells.size = (cellsL v).length := by rw [cellsL_eq]; simp
              have hcz : cells.size = pre.length + (mid.length + post.length) := by rw [← Array.length_toList, hc]; simp
              rw [if_neg (by simp [hsz, hlen]; omega)]
              exact h1
section
variable {C : Ctx} {k : List It} {E : Env} {Ps : List PA} {Os : List OA}
variable {o : Oper} {ops : Array Oper} {S : World → Prop} {r : Pl} {f : Bool}
theorem go_bslice {tb : TB} (ht : TOk C.P tb) {t e n : Nat} {parts : Array (Nat × Operand)} {s1 : Nat} {a1 : Bool} {z1 : Value} {y1 : Nat} {i : TI} {cs : List Value} (ho : o.op = .buildSlice t n parts) (hw : wants ops E o = some true)
    (hi : lookT tb t = some ⟨.slice e, s1, a1, z1, y1⟩) (he : lookT tb e = some i) (hc : bcells i.size E 0 parts.toList = some cs) (hl : Nat.beq cs.length (n * i.size) = true) (hb : Nat.ble (n * i.size) 16777216 = true) (hd : okDst C.N o.dst = true)
    (hS : f = true → ∀ b w hp ho, Sat w hp ho Ps (pt b e cs :: Os) → S w)
    (g : ∀ b, Go C (.ops ops S r :: k) (setE o.dst (.slice (some ⟨b, 0, none⟩) n n) E) Ps (pt b e cs :: Os)) : Go C (.ops ops S (.one 0 f o r) :: k) E Ps Os :=
  go_eff (fun b => .slice (some ⟨b, 0, none⟩) n n) (fun _ => Ps) (fun b => pt b e cs :: Os) hw hd (fun a w hp ho' hf hs hb' => by
    obtain ⟨ho2, h1, h2⟩ := sat_alloc hs hb' (pt w.heap.size e cs) (.cells cs.toArray e) (fun h q => q)
    refine ⟨w.heap.size, _, hp, ho2, ?_, h1, h2⟩
    have hlen := Nat.eq_of_beq_eq_true hl
    have hbig : ¬ (n * i.size > 2 ^ 24) := by have := Nat.le_of_ble_eq_true hb; simp; omega
    have hu := run_und (ht _ _ hi).u w
    have hs' := (ht _ _ he).size w
    have hz := (ht _ _ he).zero w
    have key : ∀ cells : Array Value, cells.size = n * i.size → Instr.fill (fun j => some (j * i.size, i.size)) cells (parts.map fun p => (p.1, a.eval p.2)).toList = some cs.toArray := fun cells hcs => by
      obtain ⟨out, q1, q2⟩ := fill_run hf parts.toList 0 cs cells [] cells.toList [] hc (by simp) (by simp) (by simp; omega)
      have : out = cs.toArray := by apply Array.ext'; simpa using q2
      rw [Array.toList_map, ← this]
      exact q1
    have hrun : (Instr.buildSlice t n (parts.map fun p => (p.1, a.eval p.2))).run C.P w = .ok (.slice (some ⟨w.heap.size, 0, none⟩) n n) { w with heap := w.heap.push (.cells cs.toArray e) } := by
      unfold Instr.buildSlice
      by_cases h0 : n * i.size = 0
      · have k0 := key ((Array.range 0).map fun x => (#[] : Array Value)[x % 0]!) (by simp [h0])
        simp only [Sem.run_bind, hu, Result.andThen_ok, hs', h0, if_true, Sem.run_pure]
        rw [if_neg (by simp)]
        simp only [Sem.run_bind, Result.andThen_ok, Sem.run_pure, List.size_toArray, List.length_nil]
        rw [k0]
        simp [newRow, newObj, Sem.run]
      · have k0 := key ((Array.range (n * i.size)).map fun x => i.zero.cells[x % i.zero.cells.size]!) (by simp)
        simp only [Sem.run_bind, hu, Result.andThen_ok, hs', hbig, if_false, h0, Sem.run_pure, hz]
        rw [k0]
        simp [newRow, newObj, Sem.run]
    simp [execOp, ho, hrun]) hS g
theorem row_pt {α : Type} {T : Ty α} {b e : Nat} {cs : List Value} {xs : List α} {hp h : Heap} (q : (pt b e cs).p hp h) (hr : Reps T hp xs cs) (hn : xs.length ≤ 1000000000) : (ol T e (some ⟨b, 0, none⟩) xs.length xs).p hp h := by
  have q' : h b = some (.cells cs.toArray e (0, 0)) := q
  refine ⟨cs, ⟨hr.len, Nat.le_refl _, by simp only [maxLen]; omega, .inr ⟨b, _, rfl, q', by simp [hr.len], ?_⟩⟩, hr⟩
  rw [← hr.len]; simp
theorem go_lit_ol {α : Type} (T : Ty α) {b e : Nat} {cs : List Value} (xs : List α) {rr : List OA} (h : Rem (pt b e cs) Os rr) (hr : ∀ hp, (∀ p, p ∈ Ps → p.p hp) → Reps T hp xs cs) (hn : xs.length ≤ 1000000000)
    (g : Go C k E Ps (ol T e (some ⟨b, 0, none⟩) xs.length xs :: rr)) : Go C k E Ps Os := fun a w hp ho hf hs hb => by
  refine g a w hp ho hf ⟨hs.inp, hs.ino, hs.dj, hs.ps, ?_⟩ hb
  exact hs.os.set h (Bs := [ol T e (some ⟨b, 0, none⟩) xs.length xs]) fun h1 q => ⟨h1, Heap.nil, Heap.le_refl _, Heap.nil_le _, Heap.dj_symm (Heap.nil_dj _), row_pt q (hr hp hs.ps) hn, trivial⟩
theorem go_lit {α : Type} (T : Ty α) {b e : Nat} {cs : List Value} (xs : List α) {rr : List OA} (h : Rem (pt b e cs) Os rr) (hr : ∀ hp, (∀ p, p ∈ Ps → p.p hp) → Reps T hp xs cs) (hn : xs.length ≤ 1000000000)
    (g : Go C k E (sl T (some ⟨b, 0, none⟩) xs.length xs :: Ps) rr) : Go C k E Ps Os := go_lit_ol T xs h hr hn (go_freeze_ol .here g)
theorem reps_ints {kk : IntKind} {h : Heap} : ∀ xs : List Int, Reps (tInt kk) h xs (xs.map (.int kk))
  | [] => rfl
  | x :: xs => ⟨[.int kk x], xs.map (.int kk), rfl, rfl, reps_ints xs⟩
theorem go_lit_int {kk : IntKind} {b e : Nat} (xs : List Int) {rr : List OA} (h : Rem (pt b e (xs.map (.int kk))) Os rr) (hn : xs.length ≤ 1000000000)
    (g : Go C k E (sl (tInt kk) (some ⟨b, 0, none⟩) xs.length xs :: Ps) rr) : Go C k E Ps Os := go_lit (tInt kk) xs h (fun _ _ => reps_ints xs) hn g
end
def bparts (tb : TB) (fs : List Field) (E : Env) : List Value → List (Nat × Operand) → Option (List Value)
  | z, [] => some z
  | z, (j, x) :: r => match atL fs j with
    | none => none
    | some fd => match lookT tb fd.type with
      | none => none
      | some i => match ev E x with
        | none => none
        | some v => match takeL i.size (cellsL v) with
          | none => none
          | some a => cond (Nat.beq (cellsL v).length i.size) (match putL fd.offset a z with
            | some z' => bparts tb fs E z' r
            | none => none) none
def sizes (tb : TB) : List Field → Option (List (Nat × Nat))
  | [] => some []
  | fd :: r => match lookT tb fd.type with
    | none => none
    | some i => match sizes tb r with
      | none => none
      | some l => some ((fd.offset, i.size) :: l)
section
variable {P : Program} {tb : TB} (ht : TOk P tb)
include ht in
theorem sizes_run : ∀ {fs : List Field} {l : List (Nat × Nat)}, sizes tb fs = some l → fs.mapM (fun f => (P.info? f.type).map fun i => (f.offset, i.size)) = some l ∧
    ∀ j fd i, atL fs j = some fd → lookT tb fd.type = some i → l[j]? = some (fd.offset, i.size)
  | [], l, h => by simp [sizes] at h; subst h; exact ⟨rfl, fun j fd i h => by cases h⟩
  | fd :: r, l, h => by
    simp only [sizes] at h
    split at h
    · cases h
    · rename_i i e
      split at h
      · cases h
      · rename_i l' e2
        cases h
        obtain ⟨h1, h2⟩ := sizes_run e2
        obtain ⟨x, q1, q2, q3, q4⟩ := (ht _ _ e).info
        refine ⟨by simp [List.mapM_cons, q1, h1, q3], fun j fd' i' hj hi => ?_⟩
        cases j with
        | zero => simp [atL] at hj; subst hj; rw [e] at hi; cases hi; rfl
        | succ j => simpa using h2 j fd' i' (by simpa [atL] using hj) hi
include ht in
theorem bparts_run {N : NN} {E : Env} {a : Act} (hf : Fits N E a) {fs : List Field} {pl : List (Nat × Nat)} (hpl : sizes tb fs = some pl) : ∀ (l : List (Nat × Operand)) (z cs : List Value) (cells : Array Value), bparts tb fs E z l = some cs → cells.toList = z →
    ∃ out, Instr.fill (pl.toArray[·]?) cells (l.map fun p => (p.1, a.eval p.2)) = some out ∧ out.toList = cs
  | [], z, cs, cells, h, hc => by simp [bparts] at h; subst h; exact ⟨cells, rfl, hc⟩
  | (j, x) :: l, z, cs, cells, h, hc => by
    simp only [bparts] at h
    split at h
    · cases h
    · rename_i fd e1
      split at h
      · cases h
      · rename_i i e2
        split at h
        · cases h
        · rename_i v e3
          split at h
          · cases h
          · rename_i a0 e4
            cases hq : Nat.beq (cellsL v).length i.size with
            | false => rw [hq] at h; cases h
            | true =>
              rw [hq] at h
              simp only [cond_true] at h
              have ha0 := takeL_all e4 hq
              subst ha0
              split at h
              · rename_i z' e5
                have hlen := Nat.eq_of_beq_eq_true hq
                obtain ⟨p1, p2⟩ := putL_eq e5
                have hsz : cells.size = z.length := by rw [← hc]; simp
                have hfc := fill_cells fd.offset v cells (by omega)
                obtain ⟨out, h1, h2⟩ := bparts_run hf hpl l z' cs (v.cells.zipIdx.foldl (fun cs p => cs.setIfInBounds (fd.offset + p.2) p.1) cells) h (by rw [p2, ← hc]; exact hfc)
                refine ⟨out, ?_, h2⟩
                have hpj := (sizes_run ht hpl).2 j fd i e1 e2
                have hvs : v.cells.size = (cellsL v).length := by rw [cellsL_eq]; simp
                simp only [List.map_cons, Instr.fill, hf.ev e3, List.getElem?_toArray, hpj]
                rw [if_neg (by simp [hvs, hlen]; omega)]
                simp only [List.getElem?_toArray] at h1
                exact h1
              · cases h
include ht in
theorem build_val {N : NN} {E : Env} {o : Oper} {t : TypeId} {parts : Array (Nat × Operand)} {fs : Array Field} {s1 : Nat} {a1 : Bool} {z1 : Value} {y1 : Nat} {cs : List Value} {pl : List (Nat × Nat)} (ho : o.op = .build t parts)
    (hi : lookT tb t = some ⟨.struct fs, s1, a1, z1, y1⟩) (hpl : sizes tb fs.toList = some pl) (hc : bparts tb fs.toList E (cellsL z1) parts.toList = some cs) (a : Act) (w : World) (hf : Fits N E a) :
    (execOp a.eval o).run P w = .ok (.value (.agg cs.toArray)) w := by
  obtain ⟨x, q1, q2, q3, q4⟩ := (ht _ _ hi).info
  have hu := (ht _ _ hi).u
  obtain ⟨out, h1, h2⟩ := bparts_run ht hf hpl parts.toList (cellsL z1) cs z1.cells hc (by rw [cellsL_eq])
  have hout : out = cs.toArray := by apply Array.ext'; simpa using h2
  subst hout
  have hb : P.built t (parts.map fun (i, x) => (i, a.eval x)).toList = some cs.toArray := by
    unfold Program.built
    simp only [q1, hu, q2, (sizes_run ht hpl).1, Array.toList_map]
    exact h1
  have := run_build w t (parts.map fun (i, x) => (i, a.eval x)) _ hb
  simp [execOp, ho, this]
end
section
variable {C : Ctx} {k : List It} {E : Env} {Ps : List PA} {Os : List OA}
variable {o : Oper} {ops : Array Oper} {S : World → Prop} {r : Pl} {f : Bool}
def fieldsEq (tb : TB) (xs ys : List Value) : List Field → Option Bool
  | [] => some true
  | fd :: r => match lookT tb fd.type with
    | some ⟨.int _, _, false, _, _⟩ => match atL xs fd.offset, atL ys fd.offset, fieldsEq tb xs ys r with
      | some (.int k a), some (.int k' b), some q => cond (sameK k k') (some (decide (a = b) && q)) none
      | _, _, _ => none
    | some ⟨.string, _, false, _, _⟩ => match atL xs fd.offset, atL ys fd.offset, fieldsEq tb xs ys r with
      | some (.string a), some (.string b), some q => some ((a.toList == b.toList) && q)
      | _, _, _ => none
    | some ⟨.bool, _, false, _, _⟩ => match atL xs fd.offset, atL ys fd.offset, fieldsEq tb xs ys r with
      | some (.bool a), some (.bool b), some q => some ((a == b) && q)
      | _, _, _ => none
    | _ => none
def plainNames : List Field → Bool
  | [] => true
  | fd :: r => fd.name != "_" && plainNames r
theorem run_part {P : Program} {tb : TB} (ht : TOk P tb) (w : World) {t : TypeId} {u : TypeDesc} {s1 : Nat} {z1 : Value} {y1 : Nat} (e : lookT tb t = some ⟨u, s1, false, z1, y1⟩) {xs : List Value} {j : Nat} {v : Value} (h : atL xs j = some v) :
    (part t xs.toArray j).run P w = .ok v w := by
  have ha := (ht _ _ e).agg
  rw [atL_eq] at h
  simp [part, ha, h]
theorem fieldsEq_run {P : Program} {tb : TB} (ht : TOk P tb) (w : World) (d : Nat) {xs ys : List Value} : ∀ {fs : List Field} {q : Bool}, plainNames fs = true → fieldsEq tb xs ys fs = some q → (Op.eqFields (d + 1) xs.toArray ys.toArray fs).run P w = .ok q w
  | [], q, _, h => by simp [fieldsEq] at h; subst h; rfl
  | fd :: r, q, hn, h => by
    simp only [plainNames, Bool.and_eq_true, bne_iff_ne, ne_eq] at hn
    unfold fieldsEq at h
    simp only [Op.eqFields, ne_eq, hn.1, not_false_iff, if_true]
    split at h
    · rename_i kk s1 z1 y1 e
      split at h
      · rename_i k1 a k2 b q2 e1 e2 e3
        cases hk : sameK k1 k2 with
        | false => rw [hk] at h; cases h
        | true =>
          rw [hk] at h
          cases h
          obtain rfl := sameK_eq hk
          have hu := run_und (ht _ _ e).u w
          have heq : (Op.equalIn (d + 1) fd.type (.int k1 a) (.int k1 b)).run P w = .ok (a == b) w := by
              simp [Op.equalIn, hu]
          simp only [Sem.run_bind, run_part ht w e e1, run_part ht w e e2, Result.andThen_ok, heq]
          by_cases hab : a = b
          · simp [hab, fieldsEq_run ht w d hn.2 e3]
          · simp [hab]
      · cases h
    · rename_i s1 z1 y1 e
      split at h
      · rename_i a b q2 e1 e2 e3
        cases h
        have hu := run_und (ht _ _ e).u w
        have heq : (Op.equalIn (d + 1) fd.type (.string a) (.string b)).run P w = .ok (a.toList == b.toList) w := by
          simp [Op.equalIn, hu, beq_toListBytes]
        simp only [Sem.run_bind, run_part ht w e e1, run_part ht w e e2, Result.andThen_ok, heq]
        cases hab : (a.toList == b.toList) with
        | true => simp [fieldsEq_run ht w d hn.2 e3]
        | false => simp
      · cases h
    · rename_i s1 z1 y1 e
      split at h
      · rename_i a b q2 e1 e2 e3
        cases h
        have hu := run_und (ht _ _ e).u w
        have heq : (Op.equalIn (d + 1) fd.type (.bool a) (.bool b)).run P w = .ok (a == b) w := by
          simp [Op.equalIn, hu]
        simp only [Sem.run_bind, run_part ht w e e1, run_part ht w e e2, Result.andThen_ok, heq]
        cases hab : (a == b) with
        | true => simp [fieldsEq_run ht w d hn.2 e3]
        | false => simp
      · cases h
    · cases h
theorem seq_val {tb : TB} (ht : TOk C.P tb) {t : TypeId} {x y : Operand} {t2 : TypeId} {xs ys : Array Value} {fs : Array Field} {s1 : Nat} {a1 : Bool} {z1 : Value} {y1 : Nat} {q : Bool} (ho : o.op = .binOp .eql t x y t2)
    (hx : ev E x = some (.agg xs)) (hy : ev E y = some (.agg ys)) (hi : lookT tb t = some ⟨.struct fs, s1, a1, z1, y1⟩) (hn : plainNames fs.toList = true) (hq : fieldsEq tb xs.toList ys.toList fs.toList = some q)
    (hg : C.P.eqGuardType C.P.depth t = false) (hs : C.P.stoodInHeld t = false) :
    ∀ a w hp ho, Fits C.N E a → Sat w hp ho Ps Os → (execOp a.eval o).run C.P w = .ok (.value (.bool q)) w := fun a w hp ho' hf hs' => by
  have hu := (ht _ _ hi).u
  have hfs : C.P.fieldsOf t = fs := by simp [Program.fieldsOf, hu]
  have h1 := run_eqGuard_agg (P := C.P) w .eql t x y xs ys hg
  have h2 := run_equalIn_agg (P := C.P) w 9999 t xs ys (by rw [hfs]; exact hu) hs
  rw [hfs] at h2
  have h3 := fieldsEq_run ht w 9998 hn hq
  simp only [Array.toArray_toList] at h3
  have h4 := run_eql_struct (P := C.P) w t xs ys
  rw [show Op.equalIn 10000 = Op.equalIn (9999 + 1) from rfl, h2, show Op.eqFields 9999 = Op.eqFields (9998 + 1) from rfl, h3] at h4
  simp only [execOp, ho, hf.ev hx, hf.ev hy, Sem.run_bind, h1, h4, Result.andThen_ok, Sem.run_pure]
theorem min_val {x y : Operand} {tys : Array TypeId} {k1 k2 : IntKind} {n m : Int} (ho : o.op = .call ⟨.builtin .min, #[x, y], tys⟩) (hx : ev E x = some (.int k1 n)) (hy : ev E y = some (.int k2 m)) :
    ∀ a w hp ho, Fits C.N E a → Sat w hp ho Ps Os → (execOp a.eval o).run C.P w = .ok (.value (.int k1 (if m < n then m else n))) w := fun a w hp ho' hf hs' => by
  simp [execOp, ho, resolve, invoke, builtin, hf.ev hx, hf.ev hy, Builtin.min_, Builtin.min2]
theorem max_val {x y : Operand} {tys : Array TypeId} {k1 k2 : IntKind} {n m : Int} (ho : o.op = .call ⟨.builtin .max, #[x, y], tys⟩) (hx : ev E x = some (.int k1 n)) (hy : ev E y = some (.int k2 m)) :
    ∀ a w hp ho, Fits C.N E a → Sat w hp ho Ps Os → (execOp a.eval o).run C.P w = .ok (.value (.int k1 (if n < m then m else n))) w := fun a w hp ho' hf hs' => by
  simp [execOp, ho, resolve, invoke, builtin, hf.ev hx, hf.ev hy, Builtin.max_, Builtin.max2]
def rps {α : Type} (T : Ty α) (xs : List α) (cs : List Value) : PA := ⟨fun h => Reps T h xs cs, fun hl h => h.up hl⟩
theorem Sat.addp {w : World} {hp ho : Heap} {q : PA} (hs : Sat w hp ho Ps Os) (h : q.p hp) : Sat w hp ho (q :: Ps) Os := ⟨hs.inp, hs.ino, hs.dj, forall_cons h hs.ps, hs.os⟩
theorem go_ol_open {α : Type} {T : Ty α} {e : Nat} {A : Option Addr} {c : Nat} {xs : List α} {rr : List OA} (h : Rem (ol T e A c xs) Os rr) (hpos : 0 < xs.length)
    (g : ∀ b cs cur, A = some ⟨b, 0, none⟩ → cur.length = c * T.size → cur.take (xs.length * T.size) = cs → xs.length ≤ c → c ≤ maxLen → cs.length = xs.length * T.size → Go C k E (rps T xs cs :: Ps) (pt b e cur :: rr)) : Go C k E Ps Os := fun a w hp ho hf hs hb => by
  obtain ⟨g1, g2, la, lb, ldj, ⟨cs, lrow, lreps⟩, lsep⟩ := Sep.rem h hs.os
  obtain ⟨q1, q2, q3, q4⟩ := lrow
  rcases q4 with ⟨q5, _⟩ | ⟨b, cur, e1, hg, hcur, htake⟩
  · omega
  · exact g b cs cur.toList e1 (by simpa using hcur) htake q2 q3 q1 a w hp ho hf ⟨hs.inp, hs.ino, hs.dj, forall_cons lreps hs.ps, g1, g2, la, lb, ldj, by show g1 b = _; rw [hg], lsep⟩ hb
theorem go_ol_close {α : Type} {T : Ty α} {e : Nat} {b c : Nat} (xs : List α) {cs cur : List Value} {rr : List OA} (h : Rem (pt b e cur) Os rr) (hq : rps T xs cs ∈ Ps) (h1 : cur.length = c * T.size) (h2 : cur.take (xs.length * T.size) = cs) (h3 : xs.length ≤ c) (h4 : c ≤ maxLen)
    (g : Go C k E Ps (ol T e (some ⟨b, 0, none⟩) c xs :: rr)) : Go C k E Ps Os := fun a w hp ho hf hs hb =>
  g a w hp ho hf ⟨hs.inp, hs.ino, hs.dj, hs.ps, hs.os.set h (Bs := [ol T e (some ⟨b, 0, none⟩) c xs]) fun g1 q => ⟨g1, Heap.nil, Heap.le_refl _, Heap.nil_le _, Heap.dj_symm (Heap.nil_dj _),
    ⟨cs, ⟨Reps.len (hs.ps _ hq), h3, h4, .inr ⟨b, cur.toArray, rfl, q, by simpa using h1, by simpa using h2⟩⟩, hs.ps _ hq⟩, trivial⟩⟩ hb
theorem go_rps {α : Type} {T : Ty α} {xs ys : List α} {cs : List Value} (ds : List Value) (hq : rps T xs cs ∈ Ps) (hi : ∀ h, Reps T h xs cs → Reps T h ys ds) (g : Go C k E (rps T ys ds :: Ps) Os) : Go C k E Ps Os := fun a w hp ho hf hs hb =>
  g a w hp ho hf (hs.addp (hi hp (hs.ps _ hq))) hb
theorem go_rps_at {α : Type} {T : Ty α} {xs : List α} {cs : List Value} (hq : rps T xs cs ∈ Ps) (j : Nat) {x : α} (hj : xs[j]? = some x)
    (g : ∀ ds, ds.length = T.size → (∀ i v, ds[i]? = some v → cs[j * T.size + i]? = some v) → Go C k E (rp T x ds :: Ps) Os) : Go C k E Ps Os := fun a w hp ho hf hs hb => by
  obtain ⟨ds, h1, h2⟩ := Reps.at (hs.ps _ hq) j x hj
  exact g ds (T.len h1) h2 a w hp ho hf (hs.addp h1) hb
theorem at_row {b e : Nat} {cs cur ds : List Value} {rr : List OA} {m p n : Nat} (k : Nat) {out : List Value} (h : Rem (pt b e cur) Os rr) (h2 : cur.take m = cs) (h3 : ∀ i v, ds[i]? = some v → cs[p + i]? = some v) (ho : takeL n (dropL k ds) = some out) : At Ps Os b (0 + p + k) n out :=
  ⟨(takeL_eq ho).2, fun w hp ho' hs j v hj => by
    obtain ⟨e1, e2⟩ := takeL_eq ho
    rw [dropL_eq] at e1
    obtain ⟨h1, l1, d⟩ := h.sep hs.os
    refine cellH_world (cellH_le (l1.tr hs.ino) ?_)
    change h1 b = _ at d
    simp only [cellH, d]
    rw [e1, List.getElem?_take] at hj
    split at hj
    · rw [List.getElem?_drop] at hj
      have := h3 _ _ hj
      rw [← h2, List.getElem?_take] at this
      split at this
      · simp only [List.getElem?_toArray]
        rw [Nat.zero_add, Nat.add_assoc]
        exact this
      · cases this
    · cases hj⟩
def putS (n : Nat) (vs l : List Value) : List Value := l.take n ++ (vs ++ l.drop (n + vs.length))
theorem putS_len {n : Nat} {vs l : List Value} (h : n + vs.length ≤ l.length) : (putS n vs l).length = l.length := by simp [putS]; omega
theorem putS_take {n : Nat} {vs l : List Value} (h : n + vs.length ≤ l.length) {m : Nat} (hm : m = n + vs.length) : (putS n vs l).take m = l.take n ++ vs := by
  subst hm
  unfold putS
  rw [← List.append_assoc, List.take_append_of_le_length (by simp; omega), List.take_of_length_le (by simp; omega)]
theorem putS_low {n : Nat} {vs l : List Value} (h : n + vs.length ≤ l.length) {m : Nat} (hm : m ≤ n) : (putS n vs l).take m = l.take m := by
  unfold putS
  rw [List.take_append_of_le_length (by simp; omega), List.take_take, Nat.min_eq_left hm]
theorem go_clear {tb : TB} (ht : TOk C.P tb) {s : Operand} {t e : TypeId} {s1 : Nat} {a1 : Bool} {z1 : Value} {y1 : Nat} {i : TI} {b oo n c : Nat} {cur : List Value} {rr : List OA}
    (ho : o.op = .call ⟨.builtin .clear, #[s], #[t]⟩) (hw : wants ops E o = some true) (hs : ev E s = some (.slice (some ⟨b, oo, none⟩) n c)) (hi : lookT tb t = some ⟨.slice e, s1, a1, z1, y1⟩) (he : lookT tb e = some i) (hz1 : oneCells (cellsL i.zero) = true) (hz : Nat.beq (cellsL i.zero).length i.size = true)
    (hd : okDst C.N o.dst = true) (hr : Rem (pt b e cur) Os rr) (hl : oo + n * i.size ≤ cur.length)
    (hS : f = true → ∀ zs w hp ho, Sat w hp ho Ps (pt b e (putS oo zs cur) :: rr) → S w)
    (g : ∀ zs, zs.length = n * i.size → Go C (.ops ops S r :: k) (setE o.dst (.tuple #[]) E) Ps (pt b e (putS oo zs cur) :: rr)) : Go C (.ops ops S (.one 0 f o r) :: k) E Ps Os := by
  have hzs : (Builtin.zeroCells i.zero.cells n).size = n * i.size := by rw [size_zeroCells, cellsL_eq]; simp [Nat.eq_of_beq_eq_true hz]
  refine go_eff (α := Unit) (fun _ => .tuple #[]) (fun _ => Ps) (fun _ => pt b e (putS oo (Builtin.zeroCells i.zero.cells n).toList cur) :: rr) hw hd (fun a w hp ho' hf hs' hb => ?_) (fun e x => hS e _) (fun _ => g _ (by simpa using hzs))
  have hu := (ht _ _ hi).u
  have hzr := (ht _ _ he).zero w
  obtain ⟨h1', _, a1, _, _, d1, _⟩ := Sep.rem hr hs'.os
  change h1' b = _ at d1
  have hbw : w.heap[b]? = _ := hs'.ino _ _ (a1 _ _ d1)
  have hone : oneCells (Builtin.zeroCells i.zero.cells n).toList = true := by
    have hm : ∀ u ∈ cellsL i.zero, u.oneCell' = true := oneCells_mem hz1
    have key : ∀ l : List Value, (∀ u ∈ l, u.oneCell' = true) → oneCells l = true := by
      intro l
      induction l with
      | nil => exact fun _ => rfl
      | cons v l ih =>
        intro h
        have h1 := h v (.head _)
        have h2 := ih fun u hu => h u (.tail _ hu)
        cases v <;> simp_all [oneCells, Value.oneCell']
    refine key _ fun u hu => ?_
    simp only [Builtin.zeroCells, Array.toList_map, List.mem_map, Array.mem_toList_iff, Array.mem_range] at hu
    obtain ⟨j, hj, rfl⟩ := hu
    have hpos : 0 < i.zero.cells.size := by
      rcases Nat.eq_zero_or_pos i.zero.cells.size with q | q
      · rw [q] at hj; omega
      · exact q
    have hlt := Nat.mod_lt j hpos
    refine hm _ ?_
    have hc : cellsL i.zero = i.zero.cells.toList := by rw [cellsL_eq]
    rw [getElem!_pos i.zero.cells _ hlt, hc]
    exact Array.getElem_mem_toList _
  obtain ⟨c', hrun, hc'⟩ := run_storeCells (P := C.P) (b := b) (ty := e) (o := oo) (Builtin.zeroCells i.zero.cells n).toList 0 cur.toArray w hbw (by simp [hzs]; omega) hone
  have : c' = (putS oo (Builtin.zeroCells i.zero.cells n).toList cur).toArray := by
    apply Array.ext'
    rw [hc']; simp [putS]
  subst this
  obtain ⟨ho2, h2, h3⟩ := sat_store (C := C) (cs' := putS oo (Builtin.zeroCells i.zero.cells n).toList cur) hr hs' hb
  refine ⟨(), _, hp, ho2, ?_, h2, h3⟩
  have hcl : (Builtin.clear_ #[t] o.type #[.slice (some ⟨b, oo, none⟩) n c]).run C.P w = .ok (.tuple #[]) { w with heap := w.heap.setIfInBounds b (.cells (putS oo (Builtin.zeroCells i.zero.cells n).toList cur).toArray e (0, 0)) } := by
    cases n with
    | zero =>
      have hz0 : (Builtin.zeroCells i.zero.cells 0).toList = [] := by apply List.eq_nil_of_length_eq_zero; simpa using hzs
      rw [hz0] at hrun ⊢
      simp only [storeCells, Sem.run_pure, Result.ok.injEq, true_and] at hrun
      rw [← hrun]
      simp [Builtin.clear_, run_und hu w]
    | succ n =>
      simp only [Builtin.clear_]
      simp only [Sem.run_bind, run_und hu w, Result.andThen_ok, hzr, hrun, Sem.run_pure, List.getElem?_toArray, List.getElem?_cons_zero]
  simp [execOp, ho, resolve, invoke, builtin, hf.ev hs, hcl]
end
theorem sub0 (A : Option Addr) (m size : Nat) : (if m = 0 then A else A.map (·.add (0 * size))) = A := by
  split
  · rfl
  · cases A <;> simp [Addr.add]
theorem subN {b o l m size : Nat} (h : m ≠ l) : (if m = l then (some ⟨b, o, none⟩ : Option Addr) else (some (⟨b, o, none⟩ : Addr)).map (·.add (l * size))) = some ⟨b, o + l * size, none⟩ := by
  rw [if_neg h]; simp [run_addOff]
section
variable {C : Ctx} {k : List It} {E : Env} {Ps : List PA} {Os : List OA}
variable {o : Oper} {ops : Array Oper} {S : World → Prop} {r : Pl} {f : Bool}
theorem go_len_ol {α : Type} {T : Ty α} {e : Nat} {A : Option Addr} {c : Nat} {xs : List α} {rr : List OA} (h : Rem (ol T e A c xs) Os rr) (g : xs.length ≤ c → c ≤ 9223372036854775807 → Go C k E Ps Os) : Go C k E Ps Os :=
  go_ofact (φ := xs.length ≤ c ∧ c ≤ maxLen) _ h (fun _ _ ⟨_, q, _⟩ => ⟨q.2.1, q.2.2.1⟩) fun e => g e.1 (by have := e.2; simp only [maxLen] at this; omega)
theorem go_freeze_pt {b ty : Nat} {cs : List Value} {rr : List OA} (h : Rem (pt b ty cs) Os rr) (g : Go C k E (cl b 0 cs :: Ps) rr) : Go C k E Ps Os :=
  go_freeze _ (cl b 0 cs) h (fun hp h1 H _ hl q j v hj => by
    have q' : h1 b = some (.cells cs.toArray ty (0, 0)) := q
    refine cellH_le hl ?_
    simp only [cellH, q', Nat.zero_add]
    simpa using hj) g
theorem go_fold (As : List OA) (B : OA) {rr : List OA} (h : Takes Os As rr) (hi : ∀ hp h, Sep hp As h → B.p hp h) (g : Go C k E Ps (B :: rr)) : Go C k E Ps Os := fun a w hp ho hf hs hb => by
  obtain ⟨h1, h2, a1, b1, c1, d, e⟩ := Sep.takes h hs.os
  exact g a w hp ho hf ⟨hs.inp, hs.ino, hs.dj, hs.ps, h1, h2, a1, b1, c1, hi _ _ d, e⟩ hb
theorem sep_one {A : OA} {hp h : Heap} (q : A.p hp h) : Sep hp [A] h := ⟨h, Heap.nil, Heap.le_refl _, Heap.nil_le _, Heap.dj_symm (Heap.nil_dj _), q, trivial⟩
theorem go_cutO {X : Type} {c : Code} (chg : X → Env) (rest : Env) (O' : X → List OA) (On : List OA) (J : X → Prop) {rr : List OA} (hE : LookAll E rest) (hO : Takes Os On rr)
    (first : Go C (.code c :: .back (Bk C chg rest (fun _ => Ps) (fun x => O' x ++ rr) J (fun _ => 0) 1) :: k) E Ps Os)
    (then_ : ∀ x, J x → Go C k (chg x ++ rest) Ps (O' x ++ rr)) : Go C (.code c :: k) E Ps Os := go_cut chg rest _ _ J hE first then_
theorem slice_val' {tb : TB} (ht : TOk C.P tb) {t e : TypeId} {x : Operand} {lo hi mx : Option Operand} {A : Option Addr} {n c : Nat} {s1 : Nat} {a1 : Bool} {z1 : Value} {y1 : Nat} {i : TI} (ho : o.op = .slice t x lo hi mx)
    (hx : ev E x = some (.slice A n c)) (ht' : lookT tb t = some ⟨.slice e, s1, a1, z1, y1⟩) (he : lookT tb e = some i) (l h m : Nat) (v : Value)
    (hm : match mx with | none => m = c | some q => ∃ kk, ev E q = some (.int kk (m : Int))) (hh : match hi with | none => h = n ∧ mx = none | some q => ∃ kk, ev E q = some (.int kk (h : Int)))
    (hl : match lo with | none => l = 0 | some q => ∃ kk, ev E q = some (.int kk (l : Int))) (b1 : l ≤ h) (b2 : h ≤ m) (b3 : m ≤ c) (hv : Value.slice (if m = l then A else A.map (·.add (l * i.size))) (h - l) (m - l) = v) :
    ∀ a w hp ho, Fits C.N E a → Sat w hp ho Ps Os → (execOp a.eval o).run C.P w = .ok (.value v) w := by
  subst hv
  exact slice_val ht ho hx ht' he hm hh hl b1 b2 b3
theorem reads_at {tb : TB} (ht : TOk C.P tb) {t : TypeId} {i : TI} {b oo : Nat} {cs : List Value} {v : Value} (hi : lookT tb t = some i) (hA : At Ps Os b oo i.size cs) (hv : packV i.agg cs = some v) : Reads C Ps Os t ⟨b, oo, none⟩ v :=
  fun w hp ho' hs => loadVar_run ht hi hA.1 hv (hA.2 w hp ho' hs)
theorem rdv {tb : TB} (ht : TOk C.P tb) {t : TypeId} {i : TI} {b oo : Nat} {cs : List Value} {v : Value} (hi : lookT tb t = some i) (hA : At Ps Os b oo i.size cs := by first | exact at_pt (by repeat constructor) (by rfl) | exact at_cl 0 (by repeat constructor) (by rfl) | exact at_cl 1 (by repeat constructor) (by rfl) | exact at_cl 2 (by repeat constructor) (by rfl) | exact at_cl 3 (by repeat constructor) (by rfl) | exact at_cl 4 (by repeat constructor) (by rfl) | exact at_cl 5 (by repeat constructor) (by rfl) | exact at_cl 6 (by repeat constructor) (by rfl) | exact at_cl 7 (by repeat constructor) (by rfl)) (hv : packV i.agg cs = some v := by rfl) : Reads C Ps Os t ⟨b, oo, none⟩ v := reads_at ht hi hA hv
theorem go_val2a {kPs : List PA} {kOs rr : List OA} {n : Nat} {v : Value} (hw : wants ops E o = some true) (h : ∀ a w hp ho, Fits C.N E a → Sat w hp ho kPs kOs → (execOp a.eval o).run C.P w = .ok (.value v) w) (hd : okDst C.N o.dst = true)
    (g : Go C (.ops ops (SatS kPs kOs) r :: k) (setE o.dst v E) Ps Os) (hkP : Subs Ps kPs := by repeat constructor) (hkO : Takes Os kOs rr := by repeat constructor) : Go C (.ops ops (SatS kPs kOs) (.one (n + 2) f o r) :: k) E Ps Os := go_val2 hw h hkP hkO hd g
theorem satA {kPs : List PA} {kOs rr : List OA} (hkP : Subs Ps kPs := by repeat constructor) (hkO : Takes Os kOs rr := by repeat constructor) (w : World) (hp ho : Heap) (hs : Sat w hp ho Ps Os) : SatS kPs kOs w := satS hkP hkO w hp ho hs
theorem at_any {b e oo n : Nat} {cur news : List Value} {rr : List OA} (h : Rem (pt b e cur) Os rr) (hl : news.length = n) (h3 : ∀ i v, news[i]? = some v → cur[oo + i]? = some v) : At Ps Os b oo n news :=
  ⟨hl, fun w hp ho' hs j v hj => by
    obtain ⟨h1, l1, d⟩ := h.sep hs.os
    refine cellH_world (cellH_le (l1.tr hs.ino) ?_)
    change h1 b = _ at d
    simp only [cellH, d]
    simpa using h3 _ _ hj⟩
end
theorem Spec.imp {P : Program} {f : FuncId} {args : Array Value} {Ps : List PA} {Os : List OA} {Q Q' : Value → List PA → List OA → Prop} (s : Spec P f args Ps Os Q) (h : ∀ v P O, Q v P O → Q' v P O) : Spec P f args Ps Os Q' :=
  ⟨s.fn, fun w hp ho hf a b c d => (s.calls w hp ho hf a b c d).mono fun e w' ⟨v, hp', ho', Ps', Os', e1, q, r⟩ => ⟨v, hp', ho', Ps', Os', e1, h _ _ _ q, r⟩⟩
theorem oneCells_drop {cs : List Value} (n : Nat) (h : oneCells cs = true) : oneCells (cs.drop n) = true := oneCells_right (cs.take n) _ (by rw [List.take_append_drop]; exact h)
theorem cut_news {n j s : Nat} {cs cur : List Value} (h2 : cur.take (n * s) = cs) (o : Nat) (ho : j = n ∨ o = j * s) : ∀ i v, (cs.drop (j * s))[i]? = some v → cur[o + i]? = some v := by
  intro i v h
  rw [List.getElem?_drop, ← h2, List.getElem?_take] at h
  split at h
  · rename_i hlt
    rcases ho with rfl | rfl
    · omega
    · exact h
  · cases h
end Go.Proofs.YtdconhalfanclaaGreat.SL
namespace Go.Proofs.YtdconhalfanclaaGreat.SL
structure Fa where
  p : Int
  a : List Int
  deriving DecidableEq
structure Tm where
  v : Bool
  n : Int
  deriving DecidableEq
structure Am where
  p : Int
  a : List Tm
  deriving DecidableEq
abbrev tU : Ty Int := tInt .u32
def tFa : Ty Fa := tIso (tPair tU (tSl tU)) (fun x => (x.p, x.a))
def tTm : Ty Tm := tIso (tPair tBool tU) (fun x => (x.v, x.n))
def tAm : Ty Am := tIso (tPair tU (tSl tTm)) (fun x => (x.p, x.a))
theorem tFa_open {h : Heap} {x : Fa} {cs : List Value} (r : tFa.rep h x cs) : ∃ A c, cs = [.int .u32 x.p, .slice A x.a.length c] ∧ Sl tU h A c x.a := by
  obtain ⟨a, b, e, h1, A, c, h2, h3⟩ := r
  cases h1; cases h2
  exact ⟨A, c, e, h3⟩
theorem tFa_mk {h : Heap} {x : Fa} {A : Option Addr} {c : Nat} (s : Sl tU h A c x.a) : tFa.rep h x [.int .u32 x.p, .slice A x.a.length c] := ⟨[_], [_], rfl, rfl, A, c, rfl, s⟩
theorem tTm_open {h : Heap} {x : Tm} {cs : List Value} (r : tTm.rep h x cs) : cs = [.bool x.v, .int .u32 x.n] := by
  obtain ⟨a, b, e, h1, h2⟩ := r
  cases h1; cases h2
  exact e
theorem tTm_mk {h : Heap} {x : Tm} : tTm.rep h x [.bool x.v, .int .u32 x.n] := ⟨[_], [_], rfl, rfl, rfl⟩
theorem tAm_open {h : Heap} {x : Am} {cs : List Value} (r : tAm.rep h x cs) : ∃ A c, cs = [.int .u32 x.p, .slice A x.a.length c] ∧ Sl tTm h A c x.a := by
  obtain ⟨a, b, e, h1, A, c, h2, h3⟩ := r
  cases h1; cases h2
  exact ⟨A, c, e, h3⟩
theorem tAm_mk {h : Heap} {x : Am} {A : Option Addr} {c : Nat} (s : Sl tTm h A c x.a) : tAm.rep h x [.int .u32 x.p, .slice A x.a.length c] := ⟨[_], [_], rfl, rfl, A, c, rfl, s⟩
theorem tU_flat : tU.flat := fun _ _ _ _ h => h
section
variable {C : Ctx} {k : List It} {E : Env} {Ps : List PA} {Os : List OA}
theorem go_elem_fa {A : Option Addr} {c : Nat} {xs : List Fa} (h : sl tFa A c xs ∈ Ps) (j : Nat) {x : Fa} (hj : xs[j]? = some x)
    (g : ∀ b o A' c', A = some ⟨b, o, none⟩ → Go C k E (cl b (o + j * 2) [.int .u32 x.p, .slice A' x.a.length c'] :: sl tU A' c' x.a :: Ps) Os) : Go C k E Ps Os :=
  go_elem h j hj fun b o cs e a w hp ho hf hs hb => by
    obtain ⟨A', c', hc, hsl⟩ := tFa_open (hs.ps (rp tFa x cs) (.tail _ (.head _)))
    subst hc
    exact g b o A' c' e a w hp ho hf ⟨hs.inp, hs.ino, hs.dj, forall_cons (hs.ps _ (.head _)) (forall_cons hsl fun p hq => hs.ps p (.tail _ (.tail _ hq))), hs.os⟩ hb
theorem go_elem_tm {A : Option Addr} {c : Nat} {xs : List Tm} (h : sl tTm A c xs ∈ Ps) (j : Nat) {x : Tm} (hj : xs[j]? = some x)
    (g : ∀ b o, A = some ⟨b, o, none⟩ → Go C k E (cl b (o + j * 2) [.bool x.v, .int .u32 x.n] :: Ps) Os) : Go C k E Ps Os :=
  go_elem h j hj fun b o cs e a w hp ho hf hs hb => by
    have hc := tTm_open (hs.ps (rp tTm x cs) (.tail _ (.head _)))
    subst hc
    exact g b o e a w hp ho hf ⟨hs.inp, hs.ino, hs.dj, forall_cons (hs.ps _ (.head _)) fun p hq => hs.ps p (.tail _ (.tail _ hq)), hs.os⟩ hb
theorem ent_fa {x : Fa} {A : Option Addr} {c : Nat} (h : sl tU A c x.a ∈ Ps) : Ent Ps (rp tFa x [.int .u32 x.p, .slice A x.a.length c]) := fun hp a => tFa_mk (a _ h)
theorem ent_tm {x : Tm} : Ent Ps (rp tTm x [.bool x.v, .int .u32 x.n]) := fun hp a => tTm_mk
theorem ent_int {kk : IntKind} {x : Int} : Ent Ps (rp (tInt kk) x [.int kk x]) := fun hp a => rfl
end
def cmpL : List Int → List Int → Int
  | [], [] => 0
  | [], _ :: _ => -1
  | _ :: _, [] => 1
  | x :: a, y :: b => if x < y then -1 else if y < x then 1 else cmpL a b
def cmpF (p : Int) (a : List Int) (q : Int) (b : List Int) : Int :=
  if p < q then -1 else if q < p then 1 else if a.length < b.length then -1 else if b.length < a.length then 1 else cmpL a b
theorem cmpL_at : ∀ {a b : List Int} (k : Nat) (h1 : k < a.length) (h2 : k < b.length), a.take k = b.take k → (a[k] < b[k] → cmpL a b = -1) ∧ (b[k] < a[k] → cmpL a b = 1)
  | [], _, _, h1, _, _ => by simp at h1
  | _ :: _, [], _, _, h2, _ => by simp at h2
  | x :: a, y :: b, 0, _, _, _ => by
    simp only [List.getElem_cons_zero, cmpL]
    exact ⟨fun h => by rw [if_pos h], fun h => by rw [if_neg (by omega), if_pos h]⟩
  | x :: a, y :: b, k + 1, h1, h2, e => by
    simp only [List.take_succ_cons, List.cons.injEq] at e
    obtain ⟨rfl, e⟩ := e
    have := cmpL_at k (by simpa using h1) (by simpa using h2) e
    simp only [List.getElem_cons_succ, cmpL]
    rw [if_neg (by omega), if_neg (by omega)]
    exact this
theorem cmpL_pre : ∀ {a b : List Int}, b.take a.length = a → cmpL a b = if a.length < b.length then -1 else 0
  | [], [], _ => rfl
  | [], _ :: _, _ => by simp [cmpL]
  | _ :: _, [], e => by simp at e
  | x :: a, y :: b, e => by
    simp only [List.length_cons, List.take_succ_cons, List.cons.injEq] at e
    obtain ⟨rfl, e⟩ := e
    simp only [cmpL]
    rw [if_neg (by omega), if_neg (by omega), cmpL_pre e]
    simp
theorem cmpL_post : ∀ {a b : List Int}, a.take b.length = b → b.length < a.length → cmpL a b = 1
  | [], _, _, h => by simp at h
  | _ :: _, [], _, _ => rfl
  | x :: a, y :: b, e, h => by
    simp only [List.length_cons, List.take_succ_cons, List.cons.injEq] at e
    obtain ⟨rfl, e⟩ := e
    simp only [cmpL]
    rw [if_neg (by omega), if_neg (by omega)]
    exact cmpL_post e (by simpa using h)
theorem take_next {α : Type} {a b : List α} {k : Nat} (h1 : k < a.length) (h2 : k < b.length) (e : a.take k = b.take k) (h : a[k] = b[k]) : a.take (k + 1) = b.take (k + 1) := by
  rw [List.take_succ_eq_append_getElem h1, List.take_succ_eq_append_getElem h2, e, h]
theorem cmp_r0 {a b : List Int} {k : Nat} (hz : a.take k = b.take k) (h1 : b.length ≤ k) (h2 : k ≤ b.length) (h3 : k < a.length) : (1 : Int) = cmpL a b := by
  have e : k = b.length := by omega
  subst e
  rw [List.take_length] at hz
  exact (cmpL_post hz h3).symm
theorem cmp_r1 {a b : List Int} {k : Nat} (hz : a.take k = b.take k) (h1 : k < a.length) (h2 : k < b.length) (h : ¬ (if a[k] < b[k] then (-1 : Int) else if b[k] < a[k] then 1 else 0) = 0) :
    (if a[k] < b[k] then (-1 : Int) else if b[k] < a[k] then 1 else 0) = cmpL a b := by
  have := cmpL_at k h1 h2 hz
  split
  · rename_i q; exact (this.1 q).symm
  · split
    · rename_i q; exact (this.2 q).symm
    · rename_i q1 q2; rw [if_neg q1, if_neg q2] at h; exact absurd rfl h
theorem cmp_eq {x y : Int} (h : (if x < y then (-1 : Int) else if y < x then 1 else 0) = 0) : x = y := by
  split at h
  · cases h
  · split at h
    · cases h
    · omega
theorem cmp_r2 {a b : List Int} {k : Nat} (hz : a.take k = b.take k) (h1 : a.length ≤ k) (h2 : k ≤ b.length) (h0 : k ≤ a.length) : cmpL a b = if a.length < b.length then -1 else 0 := by
  have e : k = a.length := by omega
  subst e
  rw [List.take_length] at hz
  exact cmpL_pre hz.symm
theorem or3 (x y z : Int) : ([x, y, z].find? (· ≠ 0)).getD 0 = if x ≠ 0 then x else if y ≠ 0 then y else z := by
  by_cases hx : x = 0
  · by_cases hy : y = 0
    · by_cases hz : z = 0 <;> simp [hx, hy, hz]
    · simp [hx, hy]
  · simp [hx]
theorem cmp_all (p q : Int) (a b : List Int) : ([if p < q then (-1 : Int) else if q < p then 1 else 0, if (a.length : Int) < (b.length : Int) then (-1 : Int) else if (b.length : Int) < (a.length : Int) then 1 else 0, cmpL a b].find? (· ≠ 0)).getD 0 = cmpF p a q b := by
  rw [or3]
  unfold cmpF
  by_cases h1 : p < q
  · simp [h1]
  · by_cases h2 : q < p
    · simp [h1, h2]
    · by_cases h3 : a.length < b.length
      · simp [h1, h2, h3]
      · by_cases h4 : b.length < a.length
        · simp [h1, h2, h3, h4]
        · simp [h1, h2, h3, h4]
theorem cmpF_lt {p q : Int} {a b : List Int} (h : p < q ∨ (p = q ∧ a.length < b.length)) : cmpF p a q b = -1 := by
  unfold cmpF
  rcases h with h | ⟨h1, h2⟩
  · rw [if_pos h]
  · rw [if_neg (by omega), if_neg (by omega), if_pos h2]
theorem cmpF_gt {p q : Int} {a b : List Int} (h : ¬ (p < q ∨ (p = q ∧ a.length < b.length))) (g : q < p ∨ b.length < a.length) : cmpF p a q b = 1 := by
  unfold cmpF
  rw [if_neg (by omega)]
  by_cases h1 : q < p
  · rw [if_pos h1]
  · rw [if_neg h1, if_neg (by omega), if_pos (by omega)]
theorem cmpF_eq {p q : Int} {a b : List Int} (h : ¬ (p < q ∨ (p = q ∧ a.length < b.length))) (g : ¬ (q < p ∨ b.length < a.length)) : cmpF p a q b = cmpL a b ∧ p = q ∧ a.length = b.length := by
  unfold cmpF
  rw [if_neg (by omega), if_neg (by omega), if_neg (by omega), if_neg (by omega)]
  exact ⟨rfl, by omega, by omega⟩
theorem cmpL_all {a b : List Int} {k : Nat} (hl : a.length = b.length) (hk : a.length ≤ k) (hz : a.take k = b.take k) : cmpL a b = 0 := by
  rw [List.take_of_length_le hk, List.take_of_length_le (by omega)] at hz
  subst hz
  rw [cmpL_pre (by simp)]
  simp
theorem or_hit {xs : List Int} {k : Nat} (hk : k < xs.length) (hz : (xs.take k).find? (· ≠ 0) = none) (h : xs[k] ≠ 0) : (xs.find? (· ≠ 0)).getD 0 = xs[k] := by
  have e : xs.find? (· ≠ 0) = (xs.take k ++ xs.drop k).find? (· ≠ 0) := by rw [List.take_append_drop]
  rw [e, List.find?_append, hz, List.drop_eq_getElem_cons hk, List.find?_cons_of_pos (by simpa using h)]
  rfl
theorem or_next {xs : List Int} {k : Nat} (hk : k < xs.length) (hz : (xs.take k).find? (· ≠ 0) = none) (h : xs[k] = 0) : (xs.take (k + 1)).find? (· ≠ 0) = none := by
  rw [List.take_succ_eq_append_getElem hk, List.find?_append, hz]
  simp [h]
theorem or_none {xs : List Int} {k : Nat} (hk : xs.length ≤ k) (hz : (xs.take k).find? (· ≠ 0) = none) : (xs.find? (· ≠ 0)).getD 0 = 0 := by
  rw [List.take_of_length_le hk] at hz
  rw [hz]; rfl
open Go
end Go.Proofs.YtdconhalfanclaaGreat.SL
namespace Go.Proofs.YtdconhalfanclaaGreat.SL
open Go.Proofs.Tryz
noncomputable def tiOf (i : TypeInfo) (u : TypeDesc) : TI := ⟨u, i.size, (match u with | .struct _ => true | .array _ _ => true | _ => false), i.zero.getD undef, i.bytes⟩
theorem K1 : TOne prog 1 (tiOf t1 t1.desc) := ⟨underlying1, sizeOf1, isAgg1, zeroValue1, t1, by kernel_rfl, rfl, rfl, rfl⟩
theorem K2 : TOne prog 2 (tiOf t2 t2.desc) := ⟨underlying2, sizeOf2, isAgg2, zeroValue2, t2, by kernel_rfl, rfl, rfl, rfl⟩
theorem K3 : TOne prog 3 (tiOf t3 t3.desc) := ⟨underlying3, sizeOf3, isAgg3, zeroValue3, t3, by kernel_rfl, rfl, rfl, rfl⟩
theorem K4 : TOne prog 4 (tiOf t4 t4.desc) := ⟨underlying4, sizeOf4, isAgg4, zeroValue4, t4, by kernel_rfl, rfl, rfl, rfl⟩
theorem K5 : TOne prog 5 (tiOf t5 t5.desc) := ⟨underlying5, sizeOf5, isAgg5, zeroValue5, t5, by kernel_rfl, rfl, rfl, rfl⟩
theorem K6 : TOne prog 6 (tiOf t6 t5.desc) := ⟨underlying6, sizeOf6, isAgg6, zeroValue6, t6, by kernel_rfl, rfl, rfl, rfl⟩
theorem K7 : TOne prog 7 (tiOf t7 t7.desc) := ⟨underlying7, sizeOf7, isAgg7, zeroValue7, t7, by kernel_rfl, rfl, rfl, rfl⟩
theorem K8 : TOne prog 8 (tiOf t8 t7.desc) := ⟨underlying8, sizeOf8, isAgg8, zeroValue8, t8, by kernel_rfl, rfl, rfl, rfl⟩
theorem K9 : TOne prog 9 (tiOf t9 t9.desc) := ⟨underlying9, sizeOf9, isAgg9, zeroValue9, t9, by kernel_rfl, rfl, rfl, rfl⟩
theorem K10 : TOne prog 10 (tiOf t10 t9.desc) := ⟨underlying10, sizeOf10, isAgg10, zeroValue10, t10, by kernel_rfl, rfl, rfl, rfl⟩
theorem K11 : TOne prog 11 (tiOf t11 t9.desc) := ⟨underlying11, sizeOf11, isAgg11, zeroValue11, t11, by kernel_rfl, rfl, rfl, rfl⟩
theorem K12 : TOne prog 12 (tiOf t12 t12.desc) := ⟨underlying12, sizeOf12, isAgg12, zeroValue12, t12, by kernel_rfl, rfl, rfl, rfl⟩
theorem K13 : TOne prog 13 (tiOf t13 t13.desc) := ⟨underlying13, sizeOf13, isAgg13, zeroValue13, t13, by kernel_rfl, rfl, rfl, rfl⟩
theorem K14 : TOne prog 14 (tiOf t14 t13.desc) := ⟨underlying14, sizeOf14, isAgg14, zeroValue14, t14, by kernel_rfl, rfl, rfl, rfl⟩
theorem K15 : TOne prog 15 (tiOf t15 t15.desc) := ⟨underlying15, sizeOf15, isAgg15, zeroValue15, t15, by kernel_rfl, rfl, rfl, rfl⟩
theorem K16 : TOne prog 16 (tiOf t16 t16.desc) := ⟨underlying16, sizeOf16, isAgg16, zeroValue16, t16, by kernel_rfl, rfl, rfl, rfl⟩
theorem K17 : TOne prog 17 (tiOf t17 t17.desc) := ⟨underlying17, sizeOf17, isAgg17, zeroValue17, t17, by kernel_rfl, rfl, rfl, rfl⟩
theorem K18 : TOne prog 18 (tiOf t18 t18.desc) := ⟨underlying18, sizeOf18, isAgg18, zeroValue18, t18, by kernel_rfl, rfl, rfl, rfl⟩
theorem K19 : TOne prog 19 (tiOf t19 t18.desc) := ⟨underlying19, sizeOf19, isAgg19, zeroValue19, t19, by kernel_rfl, rfl, rfl, rfl⟩
theorem K20 : TOne prog 20 (tiOf t20 t20.desc) := ⟨underlying20, sizeOf20, isAgg20, zeroValue20, t20, by kernel_rfl, rfl, rfl, rfl⟩
theorem K21 : TOne prog 21 (tiOf t21 t21.desc) := ⟨underlying21, sizeOf21, isAgg21, zeroValue21, t21, by kernel_rfl, rfl, rfl, rfl⟩
theorem K22 : TOne prog 22 (tiOf t22 t22.desc) := ⟨underlying22, sizeOf22, isAgg22, zeroValue22, t22, by kernel_rfl, rfl, rfl, rfl⟩
theorem K23 : TOne prog 23 (tiOf t23 t23.desc) := ⟨underlying23, sizeOf23, isAgg23, zeroValue23, t23, by kernel_rfl, rfl, rfl, rfl⟩
theorem K26 : TOne prog 26 (tiOf t26 t26.desc) := ⟨underlying26, sizeOf26, isAgg26, zeroValue26, t26, by kernel_rfl, rfl, rfl, rfl⟩
theorem K27 : TOne prog 27 (tiOf t27 t27.desc) := ⟨underlying27, sizeOf27, isAgg27, zeroValue27, t27, by kernel_rfl, rfl, rfl, rfl⟩
theorem K28 : TOne prog 28 (tiOf t28 t28.desc) := ⟨underlying28, sizeOf28, isAgg28, zeroValue28, t28, by kernel_rfl, rfl, rfl, rfl⟩
theorem K29 : TOne prog 29 (tiOf t29 t28.desc) := ⟨underlying29, sizeOf29, isAgg29, zeroValue29, t29, by kernel_rfl, rfl, rfl, rfl⟩
theorem K30 : TOne prog 30 (tiOf t30 t30.desc) := ⟨underlying30, sizeOf30, isAgg30, zeroValue30, t30, by kernel_rfl, rfl, rfl, rfl⟩
theorem K31 : TOne prog 31 (tiOf t31 t31.desc) := ⟨underlying31, sizeOf31, isAgg31, zeroValue31, t31, by kernel_rfl, rfl, rfl, rfl⟩
theorem K32 : TOne prog 32 (tiOf t32 t31.desc) := ⟨underlying32, sizeOf32, isAgg32, zeroValue32, t32, by kernel_rfl, rfl, rfl, rfl⟩
theorem K33 : TOne prog 33 (tiOf t33 t33.desc) := ⟨underlying33, sizeOf33, isAgg33, zeroValue33, t33, by kernel_rfl, rfl, rfl, rfl⟩
theorem K34 : TOne prog 34 (tiOf t34 t33.desc) := ⟨underlying34, sizeOf34, isAgg34, zeroValue34, t34, by kernel_rfl, rfl, rfl, rfl⟩
theorem K35 : TOne prog 35 (tiOf t35 t3.desc) := ⟨underlying35, sizeOf35, isAgg35, zeroValue35, t35, by kernel_rfl, rfl, rfl, rfl⟩
theorem K38 : TOne prog 38 (tiOf t38 t38.desc) := ⟨underlying38, sizeOf38, isAgg38, zeroValue38, t38, by kernel_rfl, rfl, rfl, rfl⟩
theorem K39 : TOne prog 39 (tiOf t39 t39.desc) := ⟨underlying39, sizeOf39, isAgg39, zeroValue39, t39, by kernel_rfl, rfl, rfl, rfl⟩
theorem K40 : TOne prog 40 (tiOf t40 t39.desc) := ⟨underlying40, sizeOf40, isAgg40, zeroValue40, t40, by kernel_rfl, rfl, rfl, rfl⟩
theorem K41 : TOne prog 41 (tiOf t41 t41.desc) := ⟨underlying41, sizeOf41, isAgg41, zeroValue41, t41, by kernel_rfl, rfl, rfl, rfl⟩
theorem K52 : TOne prog 52 (tiOf t52 t52.desc) := ⟨underlying52, sizeOf52, isAgg52, zeroValue52, t52, by kernel_rfl, rfl, rfl, rfl⟩
theorem K54 : TOne prog 54 (tiOf t54 t54.desc) := ⟨underlying54, sizeOf54, isAgg54, zeroValue54, t54, by kernel_rfl, rfl, rfl, rfl⟩
theorem K57 : TOne prog 57 (tiOf t57 t57.desc) := ⟨underlying57, sizeOf57, isAgg57, zeroValue57, t57, by kernel_rfl, rfl, rfl, rfl⟩
theorem K58 : TOne prog 58 (tiOf t58 t57.desc) := ⟨underlying58, sizeOf58, isAgg58, zeroValue58, t58, by kernel_rfl, rfl, rfl, rfl⟩
theorem K62 : TOne prog 62 (tiOf t62 t62.desc) := ⟨underlying62, sizeOf62, isAgg62, zeroValue62, t62, by kernel_rfl, rfl, rfl, rfl⟩
theorem K72 : TOne prog 72 (tiOf t72 t72.desc) := ⟨underlying72, sizeOf72, isAgg72, zeroValue72, t72, by kernel_rfl, rfl, rfl, rfl⟩
theorem K73 : TOne prog 73 (tiOf t73 t72.desc) := ⟨underlying73, sizeOf73, isAgg73, zeroValue73, t73, by kernel_rfl, rfl, rfl, rfl⟩
theorem K78 : TOne prog 78 (tiOf t78 t78.desc) := ⟨underlying78, sizeOf78, isAgg78, zeroValue78, t78, by kernel_rfl, rfl, rfl, rfl⟩
theorem K82 : TOne prog 82 (tiOf t82 t82.desc) := ⟨underlying82, sizeOf82, isAgg82, zeroValue82, t82, by kernel_rfl, rfl, rfl, rfl⟩
theorem K85 : TOne prog 85 (tiOf t85 t85.desc) := ⟨underlying85, sizeOf85, isAgg85, zeroValue85, t85, by kernel_rfl, rfl, rfl, rfl⟩
theorem K86 : TOne prog 86 (tiOf t86 t85.desc) := ⟨underlying86, sizeOf86, isAgg86, zeroValue86, t86, by kernel_rfl, rfl, rfl, rfl⟩
theorem K91 : TOne prog 91 (tiOf t91 t91.desc) := ⟨underlying91, sizeOf91, isAgg91, zeroValue91, t91, by kernel_rfl, rfl, rfl, rfl⟩
theorem K94 : TOne prog 94 (tiOf t94 t94.desc) := ⟨underlying94, sizeOf94, isAgg94, zeroValue94, t94, by kernel_rfl, rfl, rfl, rfl⟩
theorem K95 : TOne prog 95 (tiOf t95 t95.desc) := ⟨underlying95, sizeOf95, isAgg95, zeroValue95, t95, by kernel_rfl, rfl, rfl, rfl⟩
theorem K96 : TOne prog 96 (tiOf t96 t95.desc) := ⟨underlying96, sizeOf96, isAgg96, zeroValue96, t96, by kernel_rfl, rfl, rfl, rfl⟩
theorem K97 : TOne prog 97 (tiOf t97 t97.desc) := ⟨underlying97, sizeOf97, isAgg97, zeroValue97, t97, by kernel_rfl, rfl, rfl, rfl⟩
theorem K98 : TOne prog 98 (tiOf t98 t98.desc) := ⟨underlying98, sizeOf98, isAgg98, zeroValue98, t98, by kernel_rfl, rfl, rfl, rfl⟩
theorem K99 : TOne prog 99 (tiOf t99 t99.desc) := ⟨underlying99, sizeOf99, isAgg99, zeroValue99, t99, by kernel_rfl, rfl, rfl, rfl⟩
theorem K101 : TOne prog 101 (tiOf t101 t101.desc) := ⟨underlying101, sizeOf101, isAgg101, zeroValue101, t101, by kernel_rfl, rfl, rfl, rfl⟩
theorem K103 : TOne prog 103 (tiOf t103 t103.desc) := ⟨underlying103, sizeOf103, isAgg103, zeroValue103, t103, by kernel_rfl, rfl, rfl, rfl⟩
theorem K104 : TOne prog 104 (tiOf t104 t104.desc) := ⟨underlying104, sizeOf104, isAgg104, zeroValue104, t104, by kernel_rfl, rfl, rfl, rfl⟩
theorem K105 : TOne prog 105 (tiOf t105 t105.desc) := ⟨underlying105, sizeOf105, isAgg105, zeroValue105, t105, by kernel_rfl, rfl, rfl, rfl⟩
theorem K106 : TOne prog 106 (tiOf t106 t106.desc) := ⟨underlying106, sizeOf106, isAgg106, zeroValue106, t106, by kernel_rfl, rfl, rfl, rfl⟩
theorem K107 : TOne prog 107 (tiOf t107 t106.desc) := ⟨underlying107, sizeOf107, isAgg107, zeroValue107, t107, by kernel_rfl, rfl, rfl, rfl⟩
theorem K108 : TOne prog 108 (tiOf t108 t108.desc) := ⟨underlying108, sizeOf108, isAgg108, zeroValue108, t108, by kernel_rfl, rfl, rfl, rfl⟩
theorem K110 : TOne prog 110 (tiOf t110 t110.desc) := ⟨underlying110, sizeOf110, isAgg110, zeroValue110, t110, by kernel_rfl, rfl, rfl, rfl⟩
theorem K111 : TOne prog 111 (tiOf t111 t111.desc) := ⟨underlying111, sizeOf111, isAgg111, zeroValue111, t111, by kernel_rfl, rfl, rfl, rfl⟩
theorem K114 : TOne prog 114 (tiOf t114 t114.desc) := ⟨underlying114, sizeOf114, isAgg114, zeroValue114, t114, by kernel_rfl, rfl, rfl, rfl⟩
theorem K115 : TOne prog 115 (tiOf t115 t115.desc) := ⟨underlying115, sizeOf115, isAgg115, zeroValue115, t115, by kernel_rfl, rfl, rfl, rfl⟩
theorem K116 : TOne prog 116 (tiOf t116 t57.desc) := ⟨underlying116, sizeOf116, isAgg116, zeroValue116, t116, by kernel_rfl, rfl, rfl, rfl⟩
theorem K117 : TOne prog 117 (tiOf t117 t117.desc) := ⟨underlying117, sizeOf117, isAgg117, zeroValue117, t117, by kernel_rfl, rfl, rfl, rfl⟩
theorem K119 : TOne prog 119 (tiOf t119 t119.desc) := ⟨underlying119, sizeOf119, isAgg119, zeroValue119, t119, by kernel_rfl, rfl, rfl, rfl⟩
theorem K120 : TOne prog 120 (tiOf t120 t120.desc) := ⟨underlying120, sizeOf120, isAgg120, zeroValue120, t120, by kernel_rfl, rfl, rfl, rfl⟩
theorem K121 : TOne prog 121 (tiOf t121 t121.desc) := ⟨underlying121, sizeOf121, isAgg121, zeroValue121, t121, by kernel_rfl, rfl, rfl, rfl⟩
theorem K122 : TOne prog 122 (tiOf t122 t121.desc) := ⟨underlying122, sizeOf122, isAgg122, zeroValue122, t122, by kernel_rfl, rfl, rfl, rfl⟩
theorem K123 : TOne prog 123 (tiOf t123 t120.desc) := ⟨underlying123, sizeOf123, isAgg123, zeroValue123, t123, by kernel_rfl, rfl, rfl, rfl⟩
theorem K126 : TOne prog 126 (tiOf t126 t126.desc) := ⟨underlying126, sizeOf126, isAgg126, zeroValue126, t126, by kernel_rfl, rfl, rfl, rfl⟩
theorem K127 : TOne prog 127 (tiOf t127 t126.desc) := ⟨underlying127, sizeOf127, isAgg127, zeroValue127, t127, by kernel_rfl, rfl, rfl, rfl⟩
theorem K130 : TOne prog 130 (tiOf t130 t130.desc) := ⟨underlying130, sizeOf130, isAgg130, zeroValue130, t130, by kernel_rfl, rfl, rfl, rfl⟩
theorem K131 : TOne prog 131 (tiOf t131 t131.desc) := ⟨underlying131, sizeOf131, isAgg131, zeroValue131, t131, by kernel_rfl, rfl, rfl, rfl⟩
theorem K132 : TOne prog 132 (tiOf t132 t131.desc) := ⟨underlying132, sizeOf132, isAgg132, zeroValue132, t132, by kernel_rfl, rfl, rfl, rfl⟩
theorem K139 : TOne prog 139 (tiOf t139 t139.desc) := ⟨underlying139, sizeOf139, isAgg139, zeroValue139, t139, by kernel_rfl, rfl, rfl, rfl⟩
theorem K146 : TOne prog 146 (tiOf t146 t146.desc) := ⟨underlying146, sizeOf146, isAgg146, zeroValue146, t146, by kernel_rfl, rfl, rfl, rfl⟩
theorem K147 : TOne prog 147 (tiOf t147 t147.desc) := ⟨underlying147, sizeOf147, isAgg147, zeroValue147, t147, by kernel_rfl, rfl, rfl, rfl⟩
theorem K148 : TOne prog 148 (tiOf t148 t148.desc) := ⟨underlying148, sizeOf148, isAgg148, zeroValue148, t148, by kernel_rfl, rfl, rfl, rfl⟩
theorem K149 : TOne prog 149 (tiOf t149 t149.desc) := ⟨underlying149, sizeOf149, isAgg149, zeroValue149, t149, by kernel_rfl, rfl, rfl, rfl⟩
theorem K150 : TOne prog 150 (tiOf t150 t149.desc) := ⟨underlying150, sizeOf150, isAgg150, zeroValue150, t150, by kernel_rfl, rfl, rfl, rfl⟩
theorem K159 : TOne prog 159 (tiOf t159 t159.desc) := ⟨underlying159, sizeOf159, isAgg159, zeroValue159, t159, by kernel_rfl, rfl, rfl, rfl⟩
theorem K161 : TOne prog 161 (tiOf t161 t161.desc) := ⟨underlying161, sizeOf161, isAgg161, zeroValue161, t161, by kernel_rfl, rfl, rfl, rfl⟩
theorem K162 : TOne prog 162 (tiOf t162 t162.desc) := ⟨underlying162, sizeOf162, isAgg162, zeroValue162, t162, by kernel_rfl, rfl, rfl, rfl⟩
theorem K163 : TOne prog 163 (tiOf t163 t163.desc) := ⟨underlying163, sizeOf163, isAgg163, zeroValue163, t163, by kernel_rfl, rfl, rfl, rfl⟩
theorem K164 : TOne prog 164 (tiOf t164 t163.desc) := ⟨underlying164, sizeOf164, isAgg164, zeroValue164, t164, by kernel_rfl, rfl, rfl, rfl⟩
theorem K165 : TOne prog 165 (tiOf t165 t165.desc) := ⟨underlying165, sizeOf165, isAgg165, zeroValue165, t165, by kernel_rfl, rfl, rfl, rfl⟩
theorem K170 : TOne prog 170 (tiOf t170 t170.desc) := ⟨underlying170, sizeOf170, isAgg170, zeroValue170, t170, by kernel_rfl, rfl, rfl, rfl⟩
theorem K171 : TOne prog 171 (tiOf t171 t170.desc) := ⟨underlying171, sizeOf171, isAgg171, zeroValue171, t171, by kernel_rfl, rfl, rfl, rfl⟩
theorem K174 : TOne prog 174 (tiOf t174 t174.desc) := ⟨underlying174, sizeOf174, isAgg174, zeroValue174, t174, by kernel_rfl, rfl, rfl, rfl⟩
theorem K176 : TOne prog 176 (tiOf t176 t176.desc) := ⟨underlying176, sizeOf176, isAgg176, zeroValue176, t176, by kernel_rfl, rfl, rfl, rfl⟩
theorem K177 : TOne prog 177 (tiOf t177 t177.desc) := ⟨underlying177, sizeOf177, isAgg177, zeroValue177, t177, by kernel_rfl, rfl, rfl, rfl⟩
theorem K178 : TOne prog 178 (tiOf t178 t177.desc) := ⟨underlying178, sizeOf178, isAgg178, zeroValue178, t178, by kernel_rfl, rfl, rfl, rfl⟩
theorem K180 : TOne prog 180 (tiOf t180 t180.desc) := ⟨underlying180, sizeOf180, isAgg180, zeroValue180, t180, by kernel_rfl, rfl, rfl, rfl⟩
theorem K181 : TOne prog 181 (tiOf t181 t180.desc) := ⟨underlying181, sizeOf181, isAgg181, zeroValue181, t181, by kernel_rfl, rfl, rfl, rfl⟩
theorem K183 : TOne prog 183 (tiOf t183 t183.desc) := ⟨underlying183, sizeOf183, isAgg183, zeroValue183, t183, by kernel_rfl, rfl, rfl, rfl⟩
theorem K187 : TOne prog 187 (tiOf t187 t187.desc) := ⟨underlying187, sizeOf187, isAgg187, zeroValue187, t187, by kernel_rfl, rfl, rfl, rfl⟩
theorem K189 : TOne prog 189 (tiOf t189 t189.desc) := ⟨underlying189, sizeOf189, isAgg189, zeroValue189, t189, by kernel_rfl, rfl, rfl, rfl⟩
theorem K192 : TOne prog 192 (tiOf t192 t192.desc) := ⟨underlying192, sizeOf192, isAgg192, zeroValue192, t192, by kernel_rfl, rfl, rfl, rfl⟩
theorem K193 : TOne prog 193 (tiOf t193 t192.desc) := ⟨underlying193, sizeOf193, isAgg193, zeroValue193, t193, by kernel_rfl, rfl, rfl, rfl⟩
theorem K198 : TOne prog 198 (tiOf t198 t198.desc) := ⟨underlying198, sizeOf198, isAgg198, zeroValue198, t198, by kernel_rfl, rfl, rfl, rfl⟩
theorem K199 : TOne prog 199 (tiOf t199 t199.desc) := ⟨underlying199, sizeOf199, isAgg199, zeroValue199, t199, by kernel_rfl, rfl, rfl, rfl⟩
theorem K201 : TOne prog 201 (tiOf t201 t201.desc) := ⟨underlying201, sizeOf201, isAgg201, zeroValue201, t201, by kernel_rfl, rfl, rfl, rfl⟩
theorem K202 : TOne prog 202 (tiOf t202 t201.desc) := ⟨underlying202, sizeOf202, isAgg202, zeroValue202, t202, by kernel_rfl, rfl, rfl, rfl⟩
theorem K203 : TOne prog 203 (tiOf t203 t203.desc) := ⟨underlying203, sizeOf203, isAgg203, zeroValue203, t203, by kernel_rfl, rfl, rfl, rfl⟩
theorem K204 : TOne prog 204 (tiOf t204 t203.desc) := ⟨underlying204, sizeOf204, isAgg204, zeroValue204, t204, by kernel_rfl, rfl, rfl, rfl⟩
theorem K208 : TOne prog 208 (tiOf t208 t208.desc) := ⟨underlying208, sizeOf208, isAgg208, zeroValue208, t208, by kernel_rfl, rfl, rfl, rfl⟩
theorem K209 : TOne prog 209 (tiOf t209 t209.desc) := ⟨underlying209, sizeOf209, isAgg209, zeroValue209, t209, by kernel_rfl, rfl, rfl, rfl⟩
theorem K210 : TOne prog 210 (tiOf t210 t209.desc) := ⟨underlying210, sizeOf210, isAgg210, zeroValue210, t210, by kernel_rfl, rfl, rfl, rfl⟩
theorem K217 : TOne prog 217 (tiOf t217 t217.desc) := ⟨underlying217, sizeOf217, isAgg217, zeroValue217, t217, by kernel_rfl, rfl, rfl, rfl⟩
theorem K228 : TOne prog 228 (tiOf t228 t228.desc) := ⟨underlying228, sizeOf228, isAgg228, zeroValue228, t228, by kernel_rfl, rfl, rfl, rfl⟩
theorem K229 : TOne prog 229 (tiOf t229 t228.desc) := ⟨underlying229, sizeOf229, isAgg229, zeroValue229, t229, by kernel_rfl, rfl, rfl, rfl⟩
theorem K231 : TOne prog 231 (tiOf t231 t231.desc) := ⟨underlying231, sizeOf231, isAgg231, zeroValue231, t231, by kernel_rfl, rfl, rfl, rfl⟩
theorem K234 : TOne prog 234 (tiOf t234 t234.desc) := ⟨underlying234, sizeOf234, isAgg234, zeroValue234, t234, by kernel_rfl, rfl, rfl, rfl⟩
theorem K235 : TOne prog 235 (tiOf t235 t235.desc) := ⟨underlying235, sizeOf235, isAgg235, zeroValue235, t235, by kernel_rfl, rfl, rfl, rfl⟩
theorem K239 : TOne prog 239 (tiOf t239 t239.desc) := ⟨underlying239, sizeOf239, isAgg239, zeroValue239, t239, by kernel_rfl, rfl, rfl, rfl⟩
theorem K243 : TOne prog 243 (tiOf t243 t3.desc) := ⟨underlying243, sizeOf243, isAgg243, zeroValue243, t243, by kernel_rfl, rfl, rfl, rfl⟩
theorem K258 : TOne prog 258 (tiOf t258 t258.desc) := ⟨underlying258, sizeOf258, isAgg258, zeroValue258, t258, by kernel_rfl, rfl, rfl, rfl⟩
theorem K259 : TOne prog 259 (tiOf t259 t258.desc) := ⟨underlying259, sizeOf259, isAgg259, zeroValue259, t259, by kernel_rfl, rfl, rfl, rfl⟩
theorem K263 : TOne prog 263 (tiOf t263 t263.desc) := ⟨underlying263, sizeOf263, isAgg263, zeroValue263, t263, by kernel_rfl, rfl, rfl, rfl⟩
theorem K264 : TOne prog 264 (tiOf t264 t263.desc) := ⟨underlying264, sizeOf264, isAgg264, zeroValue264, t264, by kernel_rfl, rfl, rfl, rfl⟩
theorem K267 : TOne prog 267 (tiOf t267 t94.desc) := ⟨underlying267, sizeOf267, isAgg267, zeroValue267, t267, by kernel_rfl, rfl, rfl, rfl⟩
theorem K271 : TOne prog 271 (tiOf t271 t271.desc) := ⟨underlying271, sizeOf271, isAgg271, zeroValue271, t271, by kernel_rfl, rfl, rfl, rfl⟩
theorem K289 : TOne prog 289 (tiOf t289 t289.desc) := ⟨underlying289, sizeOf289, isAgg289, zeroValue289, t289, by kernel_rfl, rfl, rfl, rfl⟩
theorem K290 : TOne prog 290 (tiOf t290 t289.desc) := ⟨underlying290, sizeOf290, isAgg290, zeroValue290, t290, by kernel_rfl, rfl, rfl, rfl⟩
theorem K291 : TOne prog 291 (tiOf t291 t291.desc) := ⟨underlying291, sizeOf291, isAgg291, zeroValue291, t291, by kernel_rfl, rfl, rfl, rfl⟩
theorem K292 : TOne prog 292 (tiOf t292 t292.desc) := ⟨underlying292, sizeOf292, isAgg292, zeroValue292, t292, by kernel_rfl, rfl, rfl, rfl⟩
theorem K293 : TOne prog 293 (tiOf t293 t292.desc) := ⟨underlying293, sizeOf293, isAgg293, zeroValue293, t293, by kernel_rfl, rfl, rfl, rfl⟩
theorem K294 : TOne prog 294 (tiOf t294 t5.desc) := ⟨underlying294, sizeOf294, isAgg294, zeroValue294, t294, by kernel_rfl, rfl, rfl, rfl⟩
theorem K295 : TOne prog 295 (tiOf t295 t5.desc) := ⟨underlying295, sizeOf295, isAgg295, zeroValue295, t295, by kernel_rfl, rfl, rfl, rfl⟩
theorem K296 : TOne prog 296 (tiOf t296 t296.desc) := ⟨underlying296, sizeOf296, isAgg296, zeroValue296, t296, by kernel_rfl, rfl, rfl, rfl⟩
theorem K297 : TOne prog 297 (tiOf t297 t297.desc) := ⟨underlying297, sizeOf297, isAgg297, zeroValue297, t297, by kernel_rfl, rfl, rfl, rfl⟩
theorem K298 : TOne prog 298 (tiOf t298 t21.desc) := ⟨underlying298, sizeOf298, isAgg298, zeroValue298, t298, by kernel_rfl, rfl, rfl, rfl⟩
theorem K299 : TOne prog 299 (tiOf t299 t21.desc) := ⟨underlying299, sizeOf299, isAgg299, zeroValue299, t299, by kernel_rfl, rfl, rfl, rfl⟩
theorem K300 : TOne prog 300 (tiOf t300 t300.desc) := ⟨underlying300, sizeOf300, isAgg300, zeroValue300, t300, by kernel_rfl, rfl, rfl, rfl⟩
theorem K301 : TOne prog 301 (tiOf t301 t300.desc) := ⟨underlying301, sizeOf301, isAgg301, zeroValue301, t301, by kernel_rfl, rfl, rfl, rfl⟩
noncomputable def tbl : TB := [(1, tiOf t1 t1.desc), (2, tiOf t2 t2.desc), (3, tiOf t3 t3.desc), (4, tiOf t4 t4.desc), (5, tiOf t5 t5.desc), (6, tiOf t6 t5.desc), (7, tiOf t7 t7.desc), (8, tiOf t8 t7.desc), (9, tiOf t9 t9.desc), (10, tiOf t10 t9.desc), (11, tiOf t11 t9.desc), (12, tiOf t12 t12.desc), (13, tiOf t13 t13.desc), (14, tiOf t14 t13.desc), (15, tiOf t15 t15.desc), (16, tiOf t16 t16.desc), (17, tiOf t17 t17.desc), (18, tiOf t18 t18.desc), (19, tiOf t19 t18.desc), (20, tiOf t20 t20.desc), (21, tiOf t21 t21.desc), (22, tiOf t22 t22.desc), (23, tiOf t23 t23.desc), (26, tiOf t26 t26.desc), (27, tiOf t27 t27.desc), (28, tiOf t28 t28.desc), (29, tiOf t29 t28.desc), (30, tiOf t30 t30.desc), (31, tiOf t31 t31.desc), (32, tiOf t32 t31.desc), (33, tiOf t33 t33.desc), (34, tiOf t34 t33.desc), (35, tiOf t35 t3.desc), (38, tiOf t38 t38.desc), (39, tiOf t39 t39.desc), (40, tiOf t40 t39.desc), (41, tiOf t41 t41.desc), (52, tiOf t52 t52.desc), (54, tiOf t54 t54.desc), (57, tiOf t57 t57.desc), (58, tiOf t58 t57.desc), (62, tiOf t62 t62.desc), (72, tiOf t72 t72.desc), (73, tiOf t73 t72.desc), (78, tiOf t78 t78.desc), (82, tiOf t82 t82.desc), (85, tiOf t85 t85.desc), (86, tiOf t86 t85.desc), (91, tiOf t91 t91.desc), (94, tiOf t94 t94.desc), (95, tiOf t95 t95.desc), (96, tiOf t96 t95.desc), (97, tiOf t97 t97.desc), (98, tiOf t98 t98.desc), (99, tiOf t99 t99.desc), (101, tiOf t101 t101.desc), (103, tiOf t103 t103.desc), (104, tiOf t104 t104.desc), (105, tiOf t105 t105.desc), (106, tiOf t106 t106.desc), (107, tiOf t107 t106.desc), (108, tiOf t108 t108.desc), (110, tiOf t110 t110.desc), (111, tiOf t111 t111.desc), (114, tiOf t114 t114.desc), (115, tiOf t115 t115.desc), (116, tiOf t116 t57.desc), (117, tiOf t117 t117.desc), (119, tiOf t119 t119.desc), (120, tiOf t120 t120.desc), (121, tiOf t121 t121.desc), (122, tiOf t122 t121.desc), (123, tiOf t123 t120.desc), (126, tiOf t126 t126.desc), (127, tiOf t127 t126.desc), (130, tiOf t130 t130.desc), (131, tiOf t131 t131.desc), (132, tiOf t132 t131.desc), (139, tiOf t139 t139.desc), (146, tiOf t146 t146.desc), (147, tiOf t147 t147.desc), (148, tiOf t148 t148.desc), (149, tiOf t149 t149.desc), (150, tiOf t150 t149.desc), (159, tiOf t159 t159.desc), (161, tiOf t161 t161.desc), (162, tiOf t162 t162.desc), (163, tiOf t163 t163.desc), (164, tiOf t164 t163.desc), (165, tiOf t165 t165.desc), (170, tiOf t170 t170.desc), (171, tiOf t171 t170.desc), (174, tiOf t174 t174.desc), (176, tiOf t176 t176.desc), (177, tiOf t177 t177.desc), (178, tiOf t178 t177.desc), (180, tiOf t180 t180.desc), (181, tiOf t181 t180.desc), (183, tiOf t183 t183.desc), (187, tiOf t187 t187.desc), (189, tiOf t189 t189.desc), (192, tiOf t192 t192.desc), (193, tiOf t193 t192.desc), (198, tiOf t198 t198.desc), (199, tiOf t199 t199.desc), (201, tiOf t201 t201.desc), (202, tiOf t202 t201.desc), (203, tiOf t203 t203.desc), (204, tiOf t204 t203.desc), (208, tiOf t208 t208.desc), (209, tiOf t209 t209.desc), (210, tiOf t210 t209.desc), (217, tiOf t217 t217.desc), (228, tiOf t228 t228.desc), (229, tiOf t229 t228.desc), (231, tiOf t231 t231.desc), (234, tiOf t234 t234.desc), (235, tiOf t235 t235.desc), (239, tiOf t239 t239.desc), (243, tiOf t243 t3.desc), (258, tiOf t258 t258.desc), (259, tiOf t259 t258.desc), (263, tiOf t263 t263.desc), (264, tiOf t264 t263.desc), (267, tiOf t267 t94.desc), (271, tiOf t271 t271.desc), (289, tiOf t289 t289.desc), (290, tiOf t290 t289.desc), (291, tiOf t291 t291.desc), (292, tiOf t292 t292.desc), (293, tiOf t293 t292.desc), (294, tiOf t294 t5.desc), (295, tiOf t295 t5.desc), (296, tiOf t296 t296.desc), (297, tiOf t297 t297.desc), (298, tiOf t298 t21.desc), (299, tiOf t299 t21.desc), (300, tiOf t300 t300.desc), (301, tiOf t301 t300.desc)]
theorem Tk : TOk Tryz.prog tbl := .cons K1 (.cons K2 (.cons K3 (.cons K4 (.cons K5 (.cons K6 (.cons K7 (.cons K8 (.cons K9 (.cons K10 (.cons K11 (.cons K12 (.cons K13 (.cons K14 (.cons K15 (.cons K16 (.cons K17 (.cons K18 (.cons K19 (.cons K20 (.cons K21 (.cons K22 (.cons K23 (.cons K26 (.cons K27 (.cons K28 (.cons K29 (.cons K30 (.cons K31 (.cons K32 (.cons K33 (.cons K34 (.cons K35 (.cons K38 (.cons K39 (.cons K40 (.cons K41 (.cons K52 (.cons K54 (.cons K57 (.cons K58 (.cons K62 (.cons K72 (.cons K73 (.cons K78 (.cons K82 (.cons K85 (.cons K86 (.cons K91 (.cons K94 (.cons K95 (.cons K96 (.cons K97 (.cons K98 (.cons K99 (.cons K101 (.cons K103 (.cons K104 (.cons K105 (.cons K106 (.cons K107 (.cons K108 (.cons K110 (.cons K111 (.cons K114 (.cons K115 (.cons K116 (.cons K117 (.cons K119 (.cons K120 (.cons K121 (.cons K122 (.cons K123 (.cons K126 (.cons K127 (.cons K130 (.cons K131 (.cons K132 (.cons K139 (.cons K146 (.cons K147 (.cons K148 (.cons K149 (.cons K150 (.cons K159 (.cons K161 (.cons K162 (.cons K163 (.cons K164 (.cons K165 (.cons K170 (.cons K171 (.cons K174 (.cons K176 (.cons K177 (.cons K178 (.cons K180 (.cons K181 (.cons K183 (.cons K187 (.cons K189 (.cons K192 (.cons K193 (.cons K198 (.cons K199 (.cons K201 (.cons K202 (.cons K203 (.cons K204 (.cons K208 (.cons K209 (.cons K210 (.cons K217 (.cons K228 (.cons K229 (.cons K231 (.cons K234 (.cons K235 (.cons K239 (.cons K243 (.cons K258 (.cons K259 (.cons K263 (.cons K264 (.cons K267 (.cons K271 (.cons K289 (.cons K290 (.cons K291 (.cons K292 (.cons K293 (.cons K294 (.cons K295 (.cons K296 (.cons K297 (.cons K298 (.cons K299 (.cons K300 (.cons K301 (TOk.nil _)))))))))))))))))))))))))))))))))))))))))))))))))))))))))))))))))))))))))))))))))))))))))))))))))))))))))))))))))))))))))))))))))))))))))))
theorem mixed : (Tryz.prog).follows .mixedOrders = true := by kernel_rfl
end Go.Proofs.YtdconhalfanclaaGreat.SL
namespace Go.Proofs.YtdconhalfanclaaGreat.SL
def opR (tb : TB) (N : NN) (ops : Array Oper) (E : Env) (o : Oper) : Option Env :=
  match okDst N o.dst with
  | false => none
  | true => match wants ops E o with
    | some true => match pureOp tb E o.op with
      | some v => match o.dst with
        | some d => some ((d, v) :: E)
        | none => some E
      | none => none
    | some false => match o.dst with
      | some d => some ((d, undef) :: E)
      | none => some E
    | none => none
def stepR (tb : TB) (N : NN) : List It → Env → Option (List It × Env)
  | .code c :: k, E => match c with
    | .seq x y => some (.code x :: .code y :: k, E)
    | .skip => some (k, E)
    | .label _ => some (k, E)
    | .block id c => some (.code c :: .blk id :: k, E)
    | .exit id => match popTo id k with
      | some k' => some (k', E)
      | none => none
    | .region _ ops false => match noDefs ops.toList with
      | true => some (.ops ops (fun _ => True) (textSteps ops.toList) :: k, E)
      | false => none
    | _ => none
  | .blk _ :: k, E => some (k, E)
  | .ops ops S l :: k, E => match l with
    | .nil => some (k, E)
    | .one kd f o r => match kd, f with
      | 0, false => match opR tb N ops E o with
        | some E' => some (.ops ops S r :: k, E')
        | none => none
      | 1, _ => match opR tb N ops E o with
        | some E' => some (.ops ops S r :: k, E')
        | none => none
      | _, _ => none
    | _ => none
  | _, _ => none
def runR (tb : TB) (N : NN) : Nat → List It → Env → Option (List It × Env)
  | 0, k, E => some (k, E)
  | n + 1, k, E => match stepR tb N k E with
    | some (k', E') => runR tb N n k' E'
    | none => none
def pickR (E : Env) : List Nat → Option Env
  | [] => some []
  | d :: ds => match look E d with
    | some v => match pickR E ds with
      | some E' => some ((d, v) :: E')
      | none => none
    | none => none
theorem pickR_all {E : Env} : ∀ {ds : List Nat} {E' : Env}, pickR E ds = some E' → LookAll E E'
  | [], E', h => by cases h; trivial
  | d :: ds, E', h => by
    unfold pickR at h
    split at h
    · rename_i v e
      split at h
      · rename_i E2 e2
        cases h
        exact ⟨e, pickR_all e2⟩
      · cases h
    · cases h
section
variable {C : Ctx} {k k' : List It} {E E' : Env} {Ps : List PA} {Os : List OA} {tb : TB}
theorem opR_pure (ht : TOk C.P tb) {ops : Array Oper} {S : World → Prop} {r : Pl} {f : Bool} {o : Oper} (h : opR tb C.N ops E o = some E') (g : Go C (.ops ops S r :: k) E' Ps Os) : Go C (.ops ops S (.one 0 false o r) :: k) E Ps Os ∧ Go C (.ops ops S (.one 1 f o r) :: k) E Ps Os := by
  unfold opR at h
  split at h
  · cases h
  · rename_i hd
    split at h
    · rename_i hw
      split at h
      · rename_i v hv
        have : E' = setE o.dst v E := by
          split at h
          · rename_i d e; cases h; rw [e]; rfl
          · rename_i e; cases h; rw [e]; rfl
        subst this
        exact ⟨go_pure0 ht hw hv hd g, go_pure1 ht hw hv hd g⟩
      · cases h
    · rename_i hw
      have : E' = setE o.dst undef E := by
        split at h
        · rename_i d e; cases h; rw [e]; rfl
        · rename_i e; cases h; rw [e]; rfl
      subst this
      exact ⟨go_skip0 hw hd g, go_skip1 hw hd g⟩
    · cases h
theorem go_step (ht : TOk C.P tb) (h : stepR tb C.N k E = some (k', E')) (g : Go C k' E' Ps Os) : Go C k E Ps Os := by
  unfold stepR at h
  split at h
  · split at h
    · cases h; exact go_seq g
    · cases h; exact go_skip g
    · cases h; exact go_label g
    · cases h; exact go_block g
    · split at h
      · rename_i e; cases h; exact go_exit e g
      · cases h
    · split at h
      · rename_i e; cases h; exact go_region e g
      · cases h
    · cases h
  · cases h; exact go_blk g
  · split at h
    · cases h; exact go_nil g
    · split at h
      · split at h
        · rename_i e; cases h; exact (opR_pure (f := false) ht e g).1
        · cases h
      · split at h
        · rename_i e; cases h; exact (opR_pure ht e g).2
        · cases h
      · cases h
    · cases h
  · cases h
theorem run_ok (ht : TOk C.P tb) : ∀ (n : Nat) {k : List It} {E : Env}, runR tb C.N n k E = some (k', E') → Go C k' E' Ps Os → Go C k E Ps Os
  | 0, k, E, h, g => by cases h; exact g
  | n + 1, k, E, h, g => by
    unfold runR at h
    split at h
    · rename_i k2 E2 e; exact go_step ht e (run_ok ht n h g)
    · cases h
def runE (tb : TB) (N : NN) (n : Nat) (ds : List Nat) (k : List It) (E : Env) : Option (List It × Env) :=
  match runR tb N n k E with
  | some (k', E') => match pickR E' ds with
    | some E2 => some (k', E2)
    | none => none
  | none => none
theorem go_runE (ht : TOk C.P tb) (n : Nat) (ds : List Nat) (h : runE tb C.N n ds k E = some (k', E')) (g : Go C k' E' Ps Os) : Go C k E Ps Os := by
  unfold runE at h
  split at h
  · rename_i k2 E2 e
    split at h
    · rename_i E3 e2
      cases h
      exact run_ok ht n e (go_env _ (pickR_all e2) g)
    · cases h
  · cases h
end
theorem dcs : (∀ (p : Prop) [Decidable p], (decide p = true) = p) ∧ (∀ (p : Prop) [Decidable p], (decide p = false) = ¬p) ∧ (∀ b : Bool, ((!b) = true) = (b = false)) ∧ (∀ b : Bool, ((!b) = false) = (b = true)) ∧ (∀ a b : Bool, ((!a) = b) = (a = !b)) ∧ ((!true) = false) ∧ ((!false) = true) ∧ (∀ a b : Int, (¬a < b) = (b ≤ a)) ∧ (∀ a b : Int, (¬a ≤ b) = (b < a)) ∧ (∀ {α : Type} [BEq α] [LawfulBEq α] (a b : α), ((a == b) = true) = (a = b)) ∧ (∀ {α : Type} [BEq α] [LawfulBEq α] (a b : α), ((a == b) = false) = (a ≠ b)) :=
  ⟨fun p _ => by simp, fun p _ => by simp, fun b => by simp, fun b => by simp, fun a b => by simp, rfl, rfl, fun a b => by simp, fun a b => by simp, fun a b => by simp, fun a b => by simp⟩
theorem nk {b : Bool} {φ : Prop} (h : b = false) : b = true → φ := fun q => by rw [h] at q; cases q
def OA.pa (q : PA) (A : OA) : OA := ⟨fun hp ho => q.p hp ∧ A.p hp ho, fun hl h => ⟨q.up hl h.1, A.up hl h.2⟩⟩
def OA.free (A : OA) : Prop := ∀ hp hp' ho, A.p hp ho → A.p hp' ho
theorem Reps.flat {α : Type} {T : Ty α} (hT : T.flat) {h h' : Heap} : ∀ {xs : List α} {cs : List Value}, Reps T h xs cs → Reps T h' xs cs
  | [], _, e => e
  | _ :: _, _, ⟨a, b, e, r, s⟩ => ⟨a, b, e, hT _ _ _ _ r, Reps.flat hT s⟩
theorem free_ol {α : Type} {T : Ty α} (hT : T.flat) {e : Nat} {A : Option Addr} {c : Nat} {xs : List α} : (ol T e A c xs).free := fun _ _ _ ⟨cs, r, s⟩ => ⟨cs, r, s.flat hT⟩
theorem free_sep {Os : List OA} (h : ∀ A, A ∈ Os → A.free) {hp hp' : Heap} : ∀ {ho : Heap}, Sep hp Os ho → Sep hp' Os ho := by
  induction Os with
  | nil => exact fun _ => trivial
  | cons A Os ih => exact fun ⟨h1, h2, a, b, c, d, e⟩ => ⟨h1, h2, a, b, c, h A (.head _) _ _ _ d, ih (fun B hB => h B (.tail _ hB)) e⟩
theorem Spec.lend {P : Program} {f : FuncId} {args : Array Value} {q : PA} {Ps : List PA} {Os : List OA} {Q : Value → List PA → List OA → Prop} (s : Spec P f args (q :: Ps) Os Q) (A : OA)
    (hA : ∀ (hp h1 H : Heap), hp.le H → h1.le H → A.p hp h1 → q.p H) (hQ : ∀ v P' O', Q v P' O' → P' = [] ∧ ∀ B, B ∈ O' → B.free) : Spec P f args Ps (A :: Os) (fun v Ps' Os' => ∃ O', Q v [] O' ∧ Ps' = [] ∧ Os' = A :: O') := by
  refine ⟨s.fn, fun w hp ho hf hs hfw d1 d2 => ?_⟩
  obtain ⟨h1, h2, a, b, c, dA, e⟩ := hs.os
  have dph1 : hp.dj h1 := Heap.dj_le hs.dj (Heap.le_refl _) a
  have dph2 : hp.dj h2 := Heap.dj_le hs.dj (Heap.le_refl _) b
  have djh : (hp.add h1).dj h2 := Heap.add_dj dph2 c
  have dfh1 : hf.dj h1 := Heap.dj_le d2 (Heap.le_refl _) a
  have dfa : hf.dj (hp.add h1) := Heap.dj_symm (Heap.add_dj (Heap.dj_symm d1) (Heap.dj_symm dfh1))
  have sat : Sat w (hp.add h1) h2 (q :: Ps) Os := ⟨Heap.add_le hs.inp (a.tr hs.ino), b.tr hs.ino, djh, forall_cons (hA hp h1 _ (Heap.le_add_left _ _) (Heap.le_add_right dph1) dA) (fun p hp' => p.up (Heap.le_add_left _ _) (hs.ps p hp')), Sep.up (Heap.le_add_left _ _) e⟩
  refine (s.calls w (hp.add h1) h2 hf sat hfw dfa (Heap.dj_le d2 (Heap.le_refl _) b)).mono ?_
  rintro x w' ⟨v, hp', ho', Ps', Os', rfl, hq, hs', hle, hfl, e1, e2, hr⟩
  obtain ⟨rfl, hfree⟩ := hQ _ _ _ hq
  have lp : hp.le hp' := (Heap.le_add_left _ _).tr hle
  have l1 : h1.le hp' := (Heap.le_add_right dph1).tr hle
  have d3 : h1.dj ho' := Heap.dj_le hs'.dj l1 (Heap.le_refl _)
  refine ⟨v, hp, h1.add ho', [], A :: Os', rfl, ⟨Os', hq, rfl, rfl⟩, ⟨lp.tr hs'.inp, Heap.add_le (l1.tr hs'.inp) hs'.ino, Heap.dj_symm (Heap.add_dj (Heap.dj_symm dph1) (Heap.dj_symm (Heap.dj_le hs'.dj lp (Heap.le_refl _)))), (fun p h => nomatch h),
    h1, ho', Heap.le_add_left _ _, Heap.le_add_right d3, d3, dA, free_sep hfree hs'.os⟩, Heap.le_refl _, hfl, d1, Heap.dj_symm (Heap.add_dj (Heap.dj_symm dfh1) (Heap.dj_symm e2)), hr⟩
theorem lend_ol {α : Type} {T : Ty α} {e : Nat} {A : Option Addr} {c : Nat} {xs : List α} : ∀ (hp h1 H : Heap), hp.le H → h1.le H → (ol T e A c xs).p hp h1 → (sl T A c xs).p H := fun hp h1 H l1 l2 ⟨cs, r, s⟩ => sl_of_row r l2 (s.up l1)
section
variable {C : Ctx} {k : List It} {E : Env} {Ps : List PA} {Os : List OA}
variable {o : Oper} {ops : Array Oper} {S : World → Prop} {r : Pl} {f : Bool}
theorem go_opa {q : PA} {A : OA} {rr : List OA} (h : Rem (OA.pa q A) Os rr) (g : Go C k E (q :: Ps) (A :: rr)) : Go C k E Ps Os := fun a w hp ho hf hs hb => by
  obtain ⟨h1, h2, i, b, c, ⟨d1, d2⟩, e⟩ := Sep.rem h hs.os
  exact g a w hp ho hf ⟨hs.inp, hs.ino, hs.dj, forall_cons d1 hs.ps, h1, h2, i, b, c, d2, e⟩ hb
theorem go_foldp (Qs : List PA) (As : List OA) (B : OA) {rr : List OA} (hP : Subs Ps Qs) (h : Takes Os As rr) (hi : ∀ hp h, (∀ p, p ∈ Qs → p.p hp) → Sep hp As h → B.p hp h) (g : Go C k E Ps (B :: rr)) : Go C k E Ps Os := fun a w hp ho hf hs hb => by
  obtain ⟨h1, h2, a1, b1, c1, d, e⟩ := Sep.takes h hs.os
  exact g a w hp ho hf ⟨hs.inp, hs.ino, hs.dj, hs.ps, h1, h2, a1, b1, c1, hi _ _ (hs.ents hP.ents).ps d, e⟩ hb
theorem go_sl (q p : PA) (h : q ∈ Ps) (hi : ∀ h, q.p h → p.p h) (g : Go C k E (p :: Ps) Os) : Go C k E Ps Os := fun a w hp ho hf hs hb =>
  g a w hp ho hf (hs.addp (hi hp (hs.ps q h))) hb
theorem go_ol_addr {α : Type} {T : Ty α} {e : Nat} {A : Option Addr} {c : Nat} {xs : List α} {rr : List OA} (h : Rem (ol T e A c xs) Os rr) (hpos : 0 < xs.length) (g : ∀ b, A = some ⟨b, 0, none⟩ → Go C k E Ps Os) : Go C k E Ps Os :=
  go_ofact (φ := ∃ b, A = some ⟨b, 0, none⟩) _ h (fun _ _ ⟨_, q, _⟩ => by
    rcases q.2.2.2 with q | ⟨b, _, q, _⟩
    · omega
    · exact ⟨b, q⟩) fun ⟨b, q⟩ => g b q
theorem at_ol {α : Type} {T : Ty α} (fc : α → List Value) (hT : ∀ h x cs, T.rep h x cs → cs = fc x) (k : Nat) {e b c j n : Nat} {xs : List α} {x : α} {rr : List OA} {out : List Value} (h : Rem (ol T e (some ⟨b, 0, none⟩) c xs) Os rr) (hj : xs[j]? = some x) (ho : takeL n (dropL k (fc x)) = some out) :
    At Ps Os b (0 + j * T.size + k) n out := ⟨(takeL_eq ho).2, fun w hp ho' hs i v hi => by
    obtain ⟨h1, l1, cs, lrow, lreps⟩ := h.sep hs.os
    obtain ⟨ds, q1, q2⟩ := lreps.at j x hj
    have hds := hT _ _ _ q1
    subst hds
    obtain ⟨e1, e2⟩ := takeL_eq ho
    rw [dropL_eq] at e1
    have hlt : j < xs.length := by
      rcases Nat.lt_or_ge j xs.length with q | q
      · exact q
      · simp [q] at hj
    rcases lrow.2.2.2 with q | ⟨g, cur, q3, q4, q5, q6⟩
    · omega
    · cases q3
      refine cellH_world (cellH_le (l1.tr hs.ino) ?_)
      simp only [cellH, q4]
      rw [e1, List.getElem?_take] at hi
      split at hi
      · rw [List.getElem?_drop] at hi
        have := q2 _ _ hi
        rw [← q6, List.getElem?_take] at this
        split at this
        · rw [← Array.getElem?_toList, Nat.zero_add, Nat.add_assoc]
          exact this
        · cases this
      · cases hi⟩
theorem Reps.set {α : Type} {T : Ty α} {h : Heap} : ∀ {xs : List α} {cs : List Value} {j : Nat} {y : α} {vs : List Value}, Reps T h xs cs → j < xs.length → T.rep h y vs → Reps T h (xs.set j y) (putS (j * T.size) vs cs)
  | [], _, _, _, _, _, hj, _ => by simp at hj
  | x :: xs, _, 0, y, vs, ⟨a, b, e, r, s⟩, _, ry => by
    subst e
    refine ⟨vs, b, ?_, ry, s⟩
    simp only [putS, Nat.zero_mul, Nat.zero_add, List.take_zero, List.nil_append]
    rw [List.drop_append_of_le_length (by rw [T.len r, T.len ry]; omega), List.drop_of_length_le (by rw [T.len r, T.len ry]; omega), List.nil_append]
  | x :: xs, _, j + 1, y, vs, ⟨a, b, e, r, s⟩, hj, ry => by
    subst e
    refine ⟨a, putS (j * T.size) vs b, ?_, r, Reps.set s (by simpa using hj) ry⟩
    have ha := T.len r
    unfold putS
    rw [show (j + 1) * T.size = a.length + j * T.size from by rw [ha, Nat.add_mul]; omega, List.take_append, List.take_of_length_le (by omega), Nat.add_sub_cancel_left, List.append_assoc, List.drop_append, List.drop_of_length_le (by omega), List.nil_append]
    congr 4
    omega
theorem putS_take_comm {n m : Nat} {vs l : List Value} (h : n + vs.length ≤ m) (hl : n + vs.length ≤ l.length) : (putS n vs l).take m = putS n vs (l.take m) := by
  unfold putS
  rw [List.take_append, List.take_append, List.take_take, List.take_take, List.length_take, Nat.min_eq_left (show n ≤ l.length by omega), List.drop_take, Nat.min_eq_right (show n ≤ m by omega), Nat.min_eq_left (show n ≤ m by omega), List.take_of_length_le (l := vs) (by omega),
    show m - n - vs.length = m - (n + vs.length) from by omega]
theorem go_store_el {α : Type} {T : Ty α} {tb : TB} (ht : TOk C.P tb) {t : TypeId} {x y : Operand} {i : TI} {e b j c : Nat} {v : Value} {xs : List α} (z : α) {vs : List Value} {rr : List OA} (ho : o.op = .store t x y) (hw : wants ops E o = some true)
    (hx : ev E x = some (.pointer (some ⟨b, 0 + j * T.size, none⟩))) (hy : ev E y = some v) (hi : lookT tb t = some i) (hd : okDst C.N o.dst = true) (hr : Rem (ol T e (some ⟨b, 0, none⟩) c xs) Os rr) (hj : j < xs.length)
    (hv : takeL i.size (cellsL v) = some vs) (hl : Nat.beq (cellsL v).length i.size = true) (hm : Ent Ps (rp T z vs))
    (hS : f = true → ∀ w hp ho, Sat w hp ho Ps (ol T e (some ⟨b, 0, none⟩) c (xs.set j z) :: rr) → S w)
    (g : Go C (.ops ops S r :: k) (setE o.dst undef E) Ps (ol T e (some ⟨b, 0, none⟩) c (xs.set j z) :: rr)) : Go C (.ops ops S (.one 0 f o r) :: k) E Ps Os :=
  go_effU Ps (ol T e (some ⟨b, 0, none⟩) c (xs.set j z) :: rr) hw hd (fun a w hp ho' hf hs hb => by
    obtain ⟨g1, g2, la, lb, ldj, ⟨cs, lrow, lreps⟩, lsep⟩ := Sep.rem hr hs.os
    obtain ⟨q1, q2, q3, q4⟩ := lrow
    rcases q4 with q | ⟨g, cur, q4, q5, q6, q7⟩
    · omega
    · cases q4
      have hrz : T.rep hp z vs := hm hp hs.ps
      have hbw : w.heap[b]? = _ := hs.ino _ _ (la _ _ q5)
      have hvs := takeL_all hv hl
      subst hvs
      have hln := T.len hrz
      have hle := Nat.eq_of_beq_eq_true hl
      have hone := T.one hrz
      have hjs : j * T.size + T.size ≤ xs.length * T.size := by
        have := Nat.mul_le_mul_right T.size (show j + 1 ≤ xs.length from hj)
        rwa [Nat.add_mul, Nat.one_mul] at this
      have hxc := Nat.mul_le_mul_right T.size q2
      obtain ⟨c', hrun, hc'⟩ := run_storeCells (P := C.P) (b := b) (ty := e) (o := 0 + j * T.size) (cellsL v) 0 cur w hbw (by rw [hln, q6]; omega) hone
      rw [Nat.zero_add] at hrun
      have hc2 : c' = (putS (j * T.size) (cellsL v) cur.toList).toArray := by
        apply Array.ext'
        rw [hc']; simp [putS]
      subst hc2
      have hs2 : Sat w hp ho' Ps (pt b e cur.toList :: rr) := ⟨hs.inp, hs.ino, hs.dj, hs.ps, g1, g2, la, lb, ldj, by show g1 b = _; rw [q5], lsep⟩
      obtain ⟨ho2, h2, h3⟩ := sat_store (C := C) (cs' := putS (j * T.size) (cellsL v) cur.toList) .here hs2 hb
      refine ⟨_, hp, ho2, ?_, ?_, h3⟩
      · have hsz := (ht _ _ hi).size
        simp [execOp, ho, hf.ev hx, hf.ev hy, Instr.storeAt, Instr.sureAddr, storeVar, hsz, cellsL_eq, hle, hrun]
      · obtain ⟨k1, k2, ka, kb, kdj, kpt, ksep⟩ := h2.os
        refine ⟨h2.inp, h2.ino, h2.dj, h2.ps, k1, k2, ka, kb, kdj, ⟨putS (j * T.size) (cellsL v) cs, ⟨?_, by simpa using q2, q3, .inr ⟨b, _, rfl, kpt, ?_, ?_⟩⟩, lreps.set hj hrz⟩, ksep⟩
        · rw [putS_len (by rw [hln, q1]; exact hjs), q1]; simp
        · simp only [List.size_toArray]; rw [putS_len (by rw [hln]; simp [q6]; omega)]; simpa using q6
        · rw [← q7]
          simp only [List.length_set]
          exact putS_take_comm (by rw [hln]; exact hjs) (by rw [hln, Array.length_toList, q6]; omega)) hS g
end
section
variable {C : Ctx} {k : List It} {E : Env} {Ps : List PA} {Os : List OA}
variable {o : Oper} {ops : Array Oper} {S : World → Prop} {r : Pl} {f : Bool}
theorem go_copy {tb : TB} (ht : TOk C.P tb) {d x : Operand} {t e : TypeId} {s1 : Nat} {a1 : Bool} {z1 : Value} {y1 : Nat} {i : TI} {b oo dn dc sn sc b2 o2 : Nat} {cur news : List Value} {rr : List OA}
    (ho : o.op = .call ⟨.builtin .copy, #[d, x], #[t, t]⟩) (hw : wants ops E o = some true) (hd' : ev E d = some (.slice (some ⟨b, oo, none⟩) dn dc)) (hx : ev E x = some (.slice (some ⟨b2, o2, none⟩) sn sc)) (hi : lookT tb t = some ⟨.slice e, s1, a1, z1, y1⟩) (he : lookT tb e = some i)
    (hd : okDst C.N o.dst = true) (hr : Rem (pt b e cur) Os rr) (m : Nat) (hm : Nat.min sn dn = m) (hnews : At Ps Os b2 o2 (m * i.size) news) (h1 : oneCells news = true) (hl : oo + m * i.size ≤ cur.length)
    (hS : f = true → ∀ w hp ho, Sat w hp ho Ps (pt b e (putS oo news cur) :: rr) → S w)
    (g : Go C (.ops ops S r :: k) (setE o.dst (.int .i64 (m : Int)) E) Ps (pt b e (putS oo news cur) :: rr)) : Go C (.ops ops S (.one 0 f o r) :: k) E Ps Os :=
  go_eff (α := Unit) (fun _ => .int .i64 (m : Int)) (fun _ => Ps) (fun _ => pt b e (putS oo news cur) :: rr) hw hd (fun a w hp ho' hf hs hb => by
    have hu := (ht _ _ hi).u
    have hsz := (ht _ _ he).size w
    obtain ⟨h1', _, la, _, _, d1, _⟩ := Sep.rem hr hs.os
    change h1' b = _ at d1
    have hbw : w.heap[b]? = _ := hs.ino _ _ (la _ _ d1)
    have hlen : news.length = m * i.size := hnews.1
    have hload : (loadCells ⟨b2, o2, none⟩ (m * i.size)).run C.P w = .ok news.toArray w := by
      have := loadCells_run (P := C.P) (w := w) (b := b2) (m * i.size) 0 o2 news #[] hlen (fun j v hj => by rw [Nat.zero_add]; exact hnews.2 w hp ho' hs j v hj)
      simpa [loadCells] using this
    obtain ⟨c', hrun, hc'⟩ := run_storeCells (P := C.P) (b := b) (ty := e) (o := oo) news 0 cur.toArray w hbw (by rw [hlen]; simpa using hl) h1
    have : c' = (putS oo news cur).toArray := by apply Array.ext'; rw [hc']; simp [putS]
    subst this
    obtain ⟨ho2, h2, h3⟩ := sat_store (C := C) (cs' := putS oo news cur) hr hs hb
    refine ⟨(), _, hp, ho2, ?_, h2, h3⟩
    have hcopy : (Builtin.copy_ #[t, t] o.type #[.slice (some ⟨b, oo, none⟩) dn dc, .slice (some ⟨b2, o2, none⟩) sn sc]).run C.P w = .ok (.int .i64 (m : Int)) { w with heap := w.heap.setIfInBounds b (.cells (putS oo news cur).toArray e (0, 0)) } := by
      simp [Builtin.copy_, run_und hu w, hsz, Builtin.lenOf, Builtin.firstCells, hm, hload, hrun, goInt]
    simp [execOp, ho, resolve, invoke, builtin, hf.ev hd', hf.ev hx, hcopy]) (fun e x => hS e) (fun _ => g)
theorem go_append_zeros {tb : TB} (ht : TOk C.P tb) {s x : Operand} {t t2 e : TypeId} {s1 : Nat} {a1 : Bool} {z1 : Value} {y1 : Nat} {kk : IntKind} {s2 : Nat} {a2 : Bool} {z2 : Value} {y2 : Nat} {i : TI} {b n c m : Nat} {old : List Value}
    (ho : o.op = .call ⟨.builtin .append, #[s, x], #[t, t2]⟩) (hw : wants ops E o = some true) (hs : ev E s = some (.slice (some ⟨b, 0, none⟩) n c)) (hx : ev E x = some (.int .i64 (m : Int))) (hi : lookT tb t = some ⟨.slice e, s1, a1, z1, y1⟩) (hi2 : lookT tb t2 = some ⟨.int kk, s2, a2, z2, y2⟩) (he : lookT tb e = some i)
    (hz : Nat.beq (cellsL i.zero).length i.size = true) (hy : Nat.ble i.bytes 100000 = true) (hd : okDst C.N o.dst = true) (hold : At Ps Os b 0 (n * i.size) old) (hc : c < n + m) (hn : n + m ≤ 100000000) (hpos : 0 < m) (hsz0 : Nat.ble 1 i.size = true)
    (hS : f = true → ∀ (b' : Nat) (cur : List Value) w hp ho, Sat w hp ho Ps (pt b' e cur :: Os) → S w)
    (g : ∀ (b' c' : Nat) (cur : List Value), cur.length = c' * i.size → cur.take (n * i.size) = old → n + m ≤ c' → c' ≤ maxLen → Go C (.ops ops S r :: k) (setE o.dst (.slice (some ⟨b', 0, none⟩) (n + m) c') E) Ps (pt b' e cur :: Os)) : Go C (.ops ops S (.one 0 f o r) :: k) E Ps Os := by
  have hzs : (i.zero.cells).size = i.size := by rw [cellsL_eq]; simpa using Nat.eq_of_beq_eq_true hz
  let cur : Nat → List Value := fun c' => old ++ (Builtin.zeroCells i.zero.cells m).toList ++ (Builtin.zeroCells i.zero.cells (c' - (n + m))).toList
  have hcl : ∀ c', n + m ≤ c' → (cur c').length = c' * i.size := fun c' h => by
    simp only [cur, List.length_append, Array.length_toList, size_zeroCells, hzs, hold.1, ← Nat.add_mul]
    congr 1; omega
  have hct : ∀ c', (cur c').take (n * i.size) = old := fun c' => by
    simp only [cur, List.append_assoc]
    rw [← hold.1, List.take_left]
  refine go_eff (α := { x : Nat × Nat // n + m ≤ x.2 ∧ x.2 ≤ maxLen }) (fun x => .slice (some ⟨x.1.1, 0, none⟩) (n + m) x.1.2) (fun _ => Ps) (fun x => pt x.1.1 e (cur x.1.2) :: Os) hw hd (fun a w hp ho' hf hs' hb => ?_) (fun e x => hS e _ _) (fun x => g x.1.1 x.1.2 _ (hcl _ x.2.1) (hct _) x.2.1 x.2.2)
  have hu := (ht _ _ hi).u
  have hu2 := (ht _ _ hi2).u
  obtain ⟨xi, q1, q2, q3, q4⟩ := (ht _ _ he).info
  have hby := Nat.le_of_ble_eq_true hy
  have hsz1 := Nat.le_of_ble_eq_true hsz0
  have hcap := grownCap_ge w (n + m) c e
  have hcapm := grownCap_le_maxLen w (n + m) c e (by simp only [maxLen]; omega)
  obtain ⟨ho2, h2, h3⟩ := sat_alloc (C := C) (w := { w with drawn := w.drawn + 1 }) ⟨hs'.inp, hs'.ino, hs'.dj, hs'.ps, hs'.os⟩ hb.drew (pt w.heap.size e (cur (grownCap w (n + m) c e))) (.cells (cur (grownCap w (n + m) c e)).toArray e) (fun h q => q)
  refine ⟨⟨(w.heap.size, grownCap w (n + m) c e), hcap, hcapm⟩, _, hp, ho2, ?_, h2, h3⟩
  have hfo := run_firstCells_some (P := C.P) w.drew xi.size n ⟨b, 0, none⟩ n c old (by rw [q3]; exact hold.1) (fun j v hj => by rw [run_addOff]; exact hold.2 w hp ho' hs' j v hj)
  have hwm : IntKind.i64.wrap (m : Int) = (m : Int) := wrap_i64 (by omega) (by omega)
  have hmb : m * i.bytes ≤ 100000000 * 100000 := Nat.mul_le_mul (by omega) hby
  have hmb' : ¬ (281474976710656 < (m : Int) * (i.bytes : Int)) := by
    rw [← Int.natCast_mul]; omega
  have hnb : (n + m) * i.bytes ≤ 100000000 * 100000 := Nat.mul_le_mul hn hby
  have h48 : ¬ (281474976710656 < Builtin.nextslicecap (n + m) c * i.bytes) := by
    have := growslice_fits hc (show (n + m) * i.bytes ≤ 140737488355328 by omega)
    omega
  have hnc : ¬ (n + m ≤ c) := by omega
  have h63 : ¬ (9223372036854775807 < ((n : Int) + (m : Int))) := by omega
  have hm0 : ¬ (m * i.size = 0) := by
    have := Nat.mul_le_mul hpos hsz1
    omega
  have hrun : (Builtin.append_ #[t, t2] o.type #[.slice (some ⟨b, 0, none⟩) n c, .int .i64 (m : Int)]).run C.P w = .ok (.slice (some ⟨w.heap.size, 0, none⟩) (n + m) (grownCap w (n + m) c e)) (w.drew.alloc (.cells (cur (grownCap w (n + m) c e)).toArray e)) := by
    rw [q3] at hfo
    simp [Builtin.append_, run_underlying hu, run_underlying hu2, sizeOf, typeInfo, zeroValue, q1, q2, q3, q4, asInt, asIntOf, hwm, hmb', h48, hnc, h63, hm0, Question.forced, hfo, newRow, grownCap, show ¬ ((m : Int) < 0) by omega]
    congr 2
    apply Array.ext'
    simp [cur]
  simp [execOp, ho, resolve, invoke, builtin, hf.ev hs, hf.ev hx, hrun]
  rfl
theorem ext_val {c : Call} {g : FuncId} {l : List Value} {fn : Func} {e : Array Value → Sem Value} {v : Value} (hfn : C.P.funcs[g]? = some fn) (hname : (fn.name == "runtime.NumGoroutine") = false) (hb : fn.body.isNone = true) (hnx : Extern.findNext fn = none) (he : Extern.find fn = some e)
    (ho : o.op = .call c) (hc : calleeOf E c = some (g, l)) (hrun : ∀ w hp ho, Sat w hp ho Ps Os → (e l.toArray).run C.P w = .ok v w) :
    ∀ a w hp ho, Fits C.N E a → Sat w hp ho Ps Os → (execOp a.eval o).run C.P w = .ok (.value v) w := fun a w hp ho' hf hs => by
  obtain ⟨callee, args, tys⟩ := c
  unfold calleeOf at hc
  simp only at hc
  split at hc
  · rename_i x
    split at hc
    · rename_i g' first cap e1
      split at hc
      · rename_i l' e2
        cases hc
        have := evs_eq hf e2
        have hargs : first ++ args.map a.eval ++ cap = (first.toList ++ (l' ++ cap.toList)).toArray := by
          apply Array.ext'
          simp [← this]
        have hcf := run_callFunc_extern (P := C.P) hfn hname hb hnx he (first ++ args.map a.eval ++ cap) w
        rw [hargs, hrun w hp ho' hs] at hcf
        simp only [execOp, ho, resolve, hf.ev e1, Deferred.ofValue, invoke, Sem.run_bind, Sem.run_pure, Result.andThen_ok, hargs, hcf]
      · cases hc
    · cases hc
  · cases hc
theorem apart_run {tb : TB} (ht : TOk C.P tb) {tS tR e : TypeId} {s1 : Nat} {a1 : Bool} {z1 : Value} {y1 : Nat} {i : TI} (hi : lookT tb tS = some ⟨.slice e, s1, a1, z1, y1⟩) (he : lookT tb e = some i) {ba bb ta tb' oa ob la ca lb cb : Nat} {csa csb : List Value} {r1 r2 : List OA} (ha : Rem (pt ba ta csa) Os r1) (hb : Rem (pt bb tb' csb) r1 r2) (hne : csb ≠ []) :
    ∀ w hp ho, Sat w hp ho Ps Os → (Extern.SlicesOverlaps.overlaps #[tS, tS] #[tR] #[.slice (some ⟨ba, oa, none⟩) la ca, .slice (some ⟨bb, ob, none⟩) lb cb]).run C.P w = .ok (.bool false) w := fun w hp ho hs => by
  obtain ⟨g1, g2, x1, x2, x3, x4, x5⟩ := Sep.rem ha hs.os
  obtain ⟨k1, k2, y1', y2, y3, y4, y5⟩ := Sep.rem hb x5
  change g1 ba = _ at x4
  change k1 bb = _ at y4
  have hn : ba ≠ bb := fun q => by
    subst q
    rcases x3 ba with z | z
    · rw [x4] at z; cases z
    · rw [y1' _ _ y4] at z; cases z
  have wa : w.heap[ba]? = _ := hs.ino _ _ (x1 _ _ x4)
  have wb : w.heap[bb]? = _ := hs.ino _ _ (x2 _ _ (y1' _ _ y4))
  refine Lib.run_overlaps_apart w tS tR e (ht _ _ hi).u i.size (ht _ _ he).size ⟨ba, oa, none⟩ ⟨bb, ob, none⟩ la ca lb cb hn ta tb' csa.length csb.length ?_ ?_ ?_ ?_ ?_
  · simp [World.shape?, wa]
  · simp [World.shape?, wb]
  · cases csb with
    | nil => exact absurd rfl hne
    | cons _ _ => simp
  · simp [World.frozen?, wa]
  · simp [World.frozen?, wa]
end
theorem Reps.ins {α : Type} {T : Ty α} {h : Heap} {xs : List α} {cs v : List Value} {q : α} (r : Reps T h xs cs) (hq : T.rep h q v) {k : Nat} (hk : k ≤ xs.length) : Reps T h (xs.take k ++ q :: xs.drop k) (cs.take (k * T.size) ++ (v ++ cs.drop (k * T.size))) := by
  have h0 := Reps.split (xs := xs.take k) (ys := xs.drop k) (by rw [List.take_append_drop]; exact r)
  rw [List.length_take, Nat.min_eq_left hk] at h0
  exact h0.1.app ⟨v, _, rfl, hq, h0.2⟩
theorem ins_cells {n k c s : Nat} {cs cur v : List Value} (hcs : cs.length = n * s) (hv : v.length = s) (hc : cur.length = c * s) (ht : cur.take (k * s) = cs.take (k * s)) (hk : k ≤ n) (hn : n + 1 ≤ c) (o1 o2 : Nat) (h1 : o1 = k * s) (h2 : o2 = (k + 1) * s) :
    (putS o2 (cs.drop (k * s)) (putS o1 v cur)).take ((n + 1) * s) = cs.take (k * s) ++ (v ++ cs.drop (k * s)) ∧ (putS o2 (cs.drop (k * s)) (putS o1 v cur)).length = c * s ∧ o1 + 1 * s ≤ cur.length ∧ o2 + (n - k) * s ≤ (putS o1 v cur).length := by
  subst h1; subst h2
  have hd : (cs.drop (k * s)).length = (n - k) * s := by rw [List.length_drop, hcs, Nat.sub_mul]
  have m1 : (k + 1) * s ≤ c * s := Nat.mul_le_mul_right _ (by omega)
  have m2 : (k + 1) * s + (n - k) * s = (n + 1) * s := by rw [← Nat.add_mul]; congr 1; omega
  have m3 : (n + 1) * s ≤ c * s := Nat.mul_le_mul_right _ hn
  have e1 : (k + 1) * s = k * s + s := by rw [Nat.add_mul, Nat.one_mul]
  have l1 : k * s + v.length ≤ cur.length := by rw [hv, hc]; omega
  have l2 : (k + 1) * s + (cs.drop (k * s)).length ≤ (putS (k * s) v cur).length := by rw [putS_len l1, hd, hc]; omega
  refine ⟨?_, by rw [putS_len l2, putS_len l1, hc], by rw [hc]; omega, by rw [putS_len l1, hc]; omega⟩
  rw [putS_take l2 (by rw [hd]; omega), putS_take l1 (by rw [hv]; omega), ht, List.append_assoc]
theorem ins_cells2 {n k c s : Nat} {cs cur v : List Value} (hcs : cs.length = n * s) (hv : v.length = s) (hc : cur.length = c * s) (ht : cur.take (n * s) = cs) (hk : k ≤ n) (hn : n + 1 ≤ c) (o1 o2 : Nat) (h1 : o1 = k * s) (h2 : o2 = (k + 1) * s) :
    (putS o1 v (putS o2 (cs.drop (k * s)) cur)).take ((n + 1) * s) = cs.take (k * s) ++ (v ++ cs.drop (k * s)) ∧ (putS o1 v (putS o2 (cs.drop (k * s)) cur)).length = c * s ∧ o2 + (n - k) * s ≤ cur.length ∧ o1 + 1 * s ≤ (putS o2 (cs.drop (k * s)) cur).length := by
  subst h1; subst h2
  have hd : (cs.drop (k * s)).length = (n - k) * s := by rw [List.length_drop, hcs, Nat.sub_mul]
  have m1 : (k + 1) * s ≤ c * s := Nat.mul_le_mul_right _ (by omega)
  have m2 : (k + 1) * s + (n - k) * s = (n + 1) * s := by rw [← Nat.add_mul]; congr 1; omega
  have m3 : (n + 1) * s ≤ c * s := Nat.mul_le_mul_right _ hn
  have m4 : k * s ≤ n * s := Nat.mul_le_mul_right _ hk
  have e1 : (k + 1) * s = k * s + s := by rw [Nat.add_mul, Nat.one_mul]
  have l2 : (k + 1) * s + (cs.drop (k * s)).length ≤ cur.length := by rw [hd, hc]; omega
  have l1 : k * s + v.length ≤ (putS ((k + 1) * s) (cs.drop (k * s)) cur).length := by rw [putS_len l2, hv, hc]; omega
  refine ⟨?_, by rw [putS_len l1, putS_len l2, hc], by rw [hc]; omega, by rw [putS_len l2, hc]; omega⟩
  have hA : (putS (k * s) v (putS ((k + 1) * s) (cs.drop (k * s)) cur)).take ((n + 1) * s) = putS (k * s) v ((putS ((k + 1) * s) (cs.drop (k * s)) cur).take ((n + 1) * s)) := putS_take_comm (by rw [hv]; omega) l1
  rw [hA, putS_take l2 (by rw [hd]; omega)]
  unfold putS
  have t1 : (cur.take ((k + 1) * s)).length = (k + 1) * s := by rw [List.length_take, hc]; omega
  rw [List.take_append_of_le_length (by rw [t1]; omega), List.take_take, Nat.min_eq_left (by omega), List.drop_append, t1, hv, List.drop_of_length_le (by rw [t1]; omega), List.nil_append, show k * s + s - (k + 1) * s = 0 from by omega, List.drop_zero, ← ht, List.take_take, Nat.min_eq_left (by omega)]
theorem at_head {Ps : List PA} {Os : List OA} {b e p m n : Nat} {cs cur : List Value} {rr : List OA} (h : Rem (pt b e cur) Os rr) (h2 : cur.take m = cs) (hp : p ≤ cs.length) (hn : p = n) : At Ps Os b 0 n (cs.take p) :=
  at_any h (by rw [List.length_take, Nat.min_eq_left hp, hn]) (fun i v hv => by
    rw [List.getElem?_take] at hv
    split at hv
    · rw [← h2, List.getElem?_take] at hv
      split at hv
      · rw [Nat.zero_add]; exact hv
      · cases hv
    · cases hv)
theorem idxA_val {C : Ctx} {E : Env} {Ps : List PA} {Os : List OA} {o : Oper} {tb : TB} (ht : TOk C.P tb) {t e : TypeId} {x y : Operand} {b oo n : Nat} {kk : IntKind} {j : Int} {s1 : Nat} {a1 : Bool} {z1 : Value} {y1 : Nat} {i : TI} (ho : o.op = .indexAddr t x y)
    (hx : ev E x = some (.pointer (some ⟨b, oo, none⟩))) (hy : ev E y = some (.int kk j)) (hi : lookT tb t = some ⟨.array n e, s1, a1, z1, y1⟩) (he : lookT tb e = some i) (hj : 0 ≤ j ∧ j < n) :
    ∀ a w hp ho, Fits C.N E a → Sat w hp ho Ps Os → (execOp a.eval o).run C.P w = .ok (.value (.pointer (some ⟨b, oo + j.toNat * i.size, none⟩))) w := fun a w hp ho' hf hs => by
  have hu := run_und (ht _ _ hi).u w
  have hs := (ht _ _ he).size w
  simp [execOp, ho, hf.ev hx, hf.ev hy, Instr.indexAt, Instr.sureAddr, asIntOf, hu, hj.1, hj.2, hs, run_addOff]
theorem putL_put : ∀ (n : Nat) (vs l : List Value), n + vs.length ≤ l.length → putL n vs l = some (putS n vs l)
  | 0, [], l, _ => by simp [putL, putS]
  | 0, v :: vs, [], h => by simp at h
  | 0, v :: vs, a :: l, h => by
    simp only [List.length_cons] at h
    simp only [putL, putL_put 0 vs l (by omega)]
    simp [putS]
  | n + 1, vs, [], h => by simp at h
  | n + 1, vs, a :: l, h => by
    simp only [List.length_cons] at h
    simp only [putL, putL_put n vs l (by omega)]
    simp [putS, Nat.add_right_comm n 1]
def PA.all (l : List PA) : PA := ⟨fun h => ∀ p, p ∈ l → p.p h, fun hl h p hp => p.up hl (h p hp)⟩
section
variable {C : Ctx} {k : List It} {E : Env} {Ps : List PA} {Os : List OA}
theorem go_pall {l : List PA} (h : PA.all l ∈ Ps) (g : Go C k E (l ++ Ps) Os) : Go C k E Ps Os := fun a w hp ho hf hs hb =>
  g a w hp ho hf ⟨hs.inp, hs.ino, hs.dj, fun p hp' => (List.mem_append.1 hp').elim (hs.ps _ h p) (hs.ps p), hs.os⟩ hb
theorem go_mkall (l : List PA) (h : Subs Ps l) (g : Go C k E (PA.all l :: Ps) Os) : Go C k E Ps Os := go_ent (PA.all l) (fun hp a p hq => a p (h.mem p hq)) g
theorem go_part (A B : OA) {r : List OA} (h : Rem A Os r) (hi : ∀ hp h1, A.p hp h1 → ∃ ha hb : Heap, ha.le h1 ∧ hb.le h1 ∧ ha.dj hb ∧ ∀ H, hp.le H → hb.le H → B.p H ha) (g : Go C k E Ps (B :: r)) : Go C k E Ps Os := fun a w hp ho hf hs hb => by
  obtain ⟨h1, h2, i, b, c, d, e⟩ := Sep.rem h hs.os
  obtain ⟨ha, hc, la, lc, dac, hB⟩ := hi hp h1 d
  have dj1 : hp.dj hc := Heap.dj_le hs.dj (Heap.le_refl _) (lc.tr i)
  have djA : hp.dj ha := Heap.dj_le hs.dj (Heap.le_refl _) (la.tr i)
  have d12 : (hp.add hc).dj h2 := Heap.add_dj (Heap.dj_le hs.dj (Heap.le_refl _) b) (Heap.dj_le c lc (Heap.le_refl _))
  have dA2 : ha.dj h2 := Heap.dj_le c la (Heap.le_refl _)
  have dpA : (hp.add hc).dj ha := Heap.add_dj djA (Heap.dj_symm dac)
  refine g a w (hp.add hc) (ha.add h2) hf ⟨Heap.add_le hs.inp ((lc.tr i).tr hs.ino), Heap.add_le ((la.tr i).tr hs.ino) (b.tr hs.ino), Heap.dj_symm (Heap.add_dj (Heap.dj_symm dpA) (Heap.dj_symm d12)), fun p hq => p.up (Heap.le_add_left _ _) (hs.ps p hq),
      ha, h2, Heap.le_add_left _ _, Heap.le_add_right dA2, dA2, hB _ (Heap.le_add_left _ _) (Heap.le_add_right dj1), Sep.up (Heap.le_add_left _ _) e⟩
    ⟨hb.hp0.tr (Heap.le_add_left _ _), hb.hf, Heap.dj_symm (Heap.add_dj (Heap.dj_symm hb.djp) (Heap.dj_le (Heap.dj_symm hb.djo) (lc.tr i) (Heap.le_refl _))),
      Heap.dj_symm (Heap.add_dj (Heap.dj_le (Heap.dj_symm hb.djo) (la.tr i) (Heap.le_refl _)) (Heap.dj_le (Heap.dj_symm hb.djo) b (Heap.le_refl _))), hb.rest⟩
theorem go_dl_ol {α : Type} {T : Ty α} {e : Nat} {A : Option Addr} {c : Nat} {xs : List α} {r : List OA} (h : Rem (dl T e A c xs) Os r) (g : Go C k E Ps (ol T e A c xs :: r)) : Go C k E Ps Os :=
  go_part _ (ol T e A c xs) h (fun hp h1 ⟨cs, g1, g2, a, b, d, hr, hs, _⟩ => ⟨g1, g2, a, b, d, fun H _ l2 => ⟨cs, hr, hs.up l2⟩⟩) g
end
theorem at_part {Ps : List PA} {Os : List OA} {b e oo n : Nat} {cur news : List Value} {rr : List OA} (h : Rem (pt b e cur) Os rr) (hl : news.length = n) (hlt : oo + n ≤ cur.length) (h3 : (cur.drop oo).take n = news) : At Ps Os b oo n news :=
  at_any h hl (fun i v hv => by
    rw [← h3, List.getElem?_take] at hv
    split at hv
    · rw [List.getElem?_drop] at hv; exact hv
    · cases hv)
theorem at_one {Ps : List PA} {Os : List OA} {b e oo : Nat} {cur : List Value} {v : Value} {rr : List OA} (h : Rem (pt b e cur) Os rr) (h3 : cur[oo]? = some v) : At Ps Os b oo 1 [v] :=
  at_any h rfl (fun i u hv => by
    cases i with
    | zero => simp at hv; subst hv; simpa using h3
    | succ i => simp at hv)
theorem Spec.ownl {P : Program} {f : FuncId} {args : Array Value} {α : Type} {T : Ty α} {e : Nat} {A : Option Addr} {c : Nat} {xs : List α} {Ps : List PA} {Q : Value → Prop} (s : Spec P f args (sl T A c xs :: Ps) [] (fun v Ps' Os' => Q v ∧ Ps' = [] ∧ Os' = [])) : Spec P f args Ps [ol T e A c xs] (fun v Ps' Os' => Q v ∧ Ps' = [] ∧ Os' = [ol T e A c xs]) :=
  (s.lend (ol T e A c xs) lend_ol (fun v P' O' h => ⟨h.2.1, by rw [h.2.2]; intro B hB; cases hB⟩)).imp fun v P' O' ⟨O2, ⟨h1, _, h3⟩, h4, h5⟩ => ⟨h1, h4, by rw [h5, h3]⟩
theorem fc_int {kk : IntKind} : ∀ (h : Heap) (x : Int) (cs : List Value), (tInt kk).rep h x cs → cs = (fun y : Int => [Value.int kk y]) x := fun _ _ _ h => h
theorem Sl.suf {α : Type} {T : Ty α} {hh : Heap} {A : Option Addr} {c : Nat} {xs : List α} (s : Sl T hh A c xs) {n : Nat} (hn : n ≤ xs.length) : Sl T hh (if c = n then A else A.map (·.add (n * T.size))) (c - n) (xs.drop n) := by
  have h1 := s.1
  have := Sl.part s (l := n) (h := xs.length) (m := c) hn h1 (Nat.le_refl _) (Nat.le_refl _)
  rwa [List.take_of_length_le (by simp)] at this
theorem rem_val {C : Ctx} {E : Env} {Ps : List PA} {Os : List OA} {o : Oper} {t t2 : TypeId} {x y : Operand} {kk : IntKind} {a b : Int} (ho : o.op = .binOp .rem t x y t2) (hx : ev E x = some (.int kk a)) (hy : ev E y = some (.int kk b)) (hb : b ≠ 0) :
    ∀ ac w hp ho, Fits C.N E ac → Sat w hp ho Ps Os → (execOp ac.eval o).run C.P w = .ok (.value (.int kk (a.tmod b))) w := fun ac w hp ho' hf hs => by
  have h4 := run_intV (P := C.P) w (op := .rem) (k := kk) (k' := kk) (a := a) (b := b) (v := .int kk (a.tmod b)) (by cases kk <;> rfl) (by simp [intV, hb]) t
  have h1 : (eqGuard .rem t x y (.int kk a) (.int kk b)).run C.P w = .ok () w := by simp [eqGuard]
  simp only [execOp, ho, hf.ev hx, hf.ev hy, Sem.run_bind, h1, h4, Result.andThen_ok, Sem.run_pure]
theorem Spec.less {P : Program} {f : FuncId} {args : Array Value} {Ps Ps' : List PA} {Os : List OA} {Q : Value → List PA → List OA → Prop} (s : Spec P f args Ps Os Q) (h : ∀ q, q ∈ Ps → q ∈ Ps') : Spec P f args Ps' Os Q :=
  ⟨s.fn, fun w hp ho hf hs a b c => s.calls w hp ho hf ⟨hs.inp, hs.ino, hs.dj, fun p hp' => hs.ps p (h p hp'), hs.os⟩ a b c⟩
theorem at_olp {Ps : List PA} {Os : List OA} {α : Type} {T : Ty α} (fc : α → List Value) (hT : ∀ h x cs, T.rep h x cs → cs = fc x) {e b c n p : Nat} {xs : List α} {x : α} {rr : List OA} {out : List Value} (h : Rem (ol T e (some ⟨b, 0, none⟩) c xs) Os rr) (j : Nat) (hj : xs[j]? = some x) (hp : p = 0 + j * T.size) (ho : takeL n (fc x) = some out) :
    At Ps Os b p n out := by
  subst hp
  exact at_ol fc hT 0 h hj ho
theorem Reps.head {α : Type} {T : Ty α} {h : Heap} {xs : List α} {cs : List Value} (r : Reps T h xs cs) {m : Nat} (hm : m ≤ xs.length) : Reps T h (xs.take m) (cs.take (m * T.size)) := by
  have := (Reps.split (xs := xs.take m) (ys := xs.drop m) (by rw [List.take_append_drop]; exact r)).1
  rwa [List.length_take, Nat.min_eq_left hm] at this
theorem zM {φ : Prop} (h : φ := by repeat constructor) : φ := h
theorem zF {φ : Prop} (h : false = true) : φ := nomatch h
theorem zQ {b : Bool} {φ : Prop} (h : b = false := by kernel_rfl) (q : b = true) : φ := nk h q
theorem zA {φ : Prop} (h : φ := by repeat first | exact trivial | refine ⟨rfl, ?_⟩) : φ := h
theorem zH {φ : Prop} (h : φ := by first | exact (fun _ _ _ => satA) | exact (fun h => nomatch h) | exact (nk (by kernel_rfl))) : φ := h
def gt0 (xs : List Int) (j : Nat) : Int := (xs[j]?).getD 0
theorem gt0_get {xs : List Int} {j : Nat} (h : j < xs.length) : xs[j]? = some (gt0 xs j) := by rw [gt0, List.getElem?_eq_getElem h]; rfl
section
variable {C : Ctx} {k k0 : List It} {E E0 : Env} {Ps : List PA} {Os : List OA} {ops : Array Oper} {S : World → Prop} {o : Oper} {r : Pl} {f : Bool}
theorem zR (n : Nat) (g : Go C k E Ps Os) (h : runR tbl C.N n k0 E0 = some (k, E) := by exact rfl) (ht : TOk C.P tbl := by exact Tk) : Go C k0 E0 Ps Os := run_ok ht n h g
theorem zi (d : Nat) {n : Int} (g : Go C k ((d, .int .i64 n) :: E) Ps Os) (h : look E d = some (.int .i64 (IntKind.i64.wrap n)) := by exact rfl) (h1 : -9223372036854775808 ≤ n := by omega) (h2 : n ≤ 9223372036854775807 := by omega) : Go C k E Ps Os := go_i64 d h h1 h2 g
theorem zE (n : Nat) (ds : List Nat) (g : Go C k E Ps Os) (h : runE tbl C.N n ds k0 E0 = some (k, E) := by exact rfl) (ht : TOk C.P tbl := by exact Tk) : Go C k0 E0 Ps Os := go_runE ht n ds h g
theorem zL (n : Nat) {t : TypeId} {x : Operand} {i : TI} {b oo : Nat} {cs : List Value} {v : Value} (g : Go C (.ops ops S r :: k) (setE o.dst v E) Ps Os) (hr : runR tbl C.N n k0 E0 = some (.ops ops S (.one 0 false o r) :: k, E) := by exact rfl) (hw : wants ops E o = some true := by exact rfl)
    (ho : o.op = .load t x := by exact rfl) (hx : ev E x = some (.pointer (some ⟨b, oo, none⟩)) := by exact rfl) (hi : lookT tbl t = some i := by exact rfl)
    (hA : At Ps Os b oo i.size cs := by first | exact at_pt (by repeat constructor) (by rfl) | exact at_cl 0 (by repeat constructor) (by rfl) | exact at_cl 1 (by repeat constructor) (by rfl) | exact at_cl 2 (by repeat constructor) (by rfl) | exact at_cl 3 (by repeat constructor) (by rfl) | exact at_cl 4 (by repeat constructor) (by rfl) | exact at_cl 5 (by repeat constructor) (by rfl) | exact at_cl 6 (by repeat constructor) (by rfl) | exact at_cl 7 (by repeat constructor) (by rfl))
    (hv : packV i.agg cs = some v := by rfl) (hd : okDst C.N o.dst = true := by exact rfl) (ht : TOk C.P tbl := by exact Tk) : Go C k0 E0 Ps Os := run_ok ht n hr (go_val0 hw (load_val ht ho hx hi hA hv) hd g)
theorem zK (n : Nat) {m : Nat} {kPs : List PA} {kOs rr : List OA} {t : TypeId} {x : Operand} {i : TI} {b oo : Nat} {cs : List Value} {v : Value} (g : Go C (.ops ops (SatS kPs kOs) r :: k) (setE o.dst v E) Ps Os) (hr : runR tbl C.N n k0 E0 = some (.ops ops (SatS kPs kOs) (.one (m + 2) f o r) :: k, E) := by exact rfl) (hw : wants ops E o = some true := by exact rfl)
    (ho : o.op = .load t x := by exact rfl) (hx : ev E x = some (.pointer (some ⟨b, oo, none⟩)) := by exact rfl) (hi : lookT tbl t = some i := by exact rfl)
    (hA : At kPs kOs b oo i.size cs := by first | exact at_pt (by repeat constructor) (by rfl) | exact at_cl 0 (by repeat constructor) (by rfl) | exact at_cl 1 (by repeat constructor) (by rfl) | exact at_cl 2 (by repeat constructor) (by rfl) | exact at_cl 3 (by repeat constructor) (by rfl) | exact at_cl 4 (by repeat constructor) (by rfl) | exact at_cl 5 (by repeat constructor) (by rfl) | exact at_cl 6 (by repeat constructor) (by rfl) | exact at_cl 7 (by repeat constructor) (by rfl))
    (hv : packV i.agg cs = some v := by rfl) (hd : okDst C.N o.dst = true := by exact rfl) (hkP : Subs Ps kPs := by repeat constructor) (hkO : Takes Os kOs rr := by repeat constructor) (ht : TOk C.P tbl := by exact Tk) : Go C k0 E0 Ps Os :=
  run_ok ht n hr (go_val2 hw (load_val ht ho hx hi hA hv) hkP hkO hd g)
theorem zLm (n j : Nat) (xs : List Int) {m : Nat} {kPs : List PA} {kOs r2 : List OA} {kk : IntKind} {t : TypeId} {x : Operand} {u : TypeDesc} {z : Value} {y e b c : Nat} {rr : List OA} (g : Go C (.ops ops (SatS kPs kOs) r :: k) (setE o.dst (.int kk (gt0 xs j)) E) Ps Os) (hr : runR tbl C.N n k0 E0 = some (.ops ops (SatS kPs kOs) (.one (m + 2) f o r) :: k, E) := by exact rfl) (hw : wants ops E o = some true := by exact rfl)
    (ho : o.op = .load t x := by exact rfl) (hx : ev E x = some (.pointer (some ⟨b, 0 + j * 1, none⟩)) := by exact rfl) (hi : lookT tbl t = some ⟨u, 1, false, z, y⟩ := by exact rfl) (hq : Rem (ol (tInt kk) e (some ⟨b, 0, none⟩) c xs) kOs rr := by repeat constructor) (hd : okDst C.N o.dst = true := by exact rfl) (hj : j < xs.length := by omega) (hkP : Subs Ps kPs := by repeat constructor) (hkO : Takes Os kOs r2 := by repeat constructor) (ht : TOk C.P tbl := by exact Tk) : Go C k0 E0 Ps Os :=
  run_ok ht n hr (go_val2 hw (load_val (cs := [.int kk (gt0 xs j)]) ht ho hx hi (at_ol (fun y : Int => [.int kk y]) fc_int 0 hq (gt0_get hj) rfl) rfl) hkP hkO hd g)
theorem zq (n : Nat) {t : TypeId} {parts : Array (Nat × Operand)} {fs : Array Field} {s1 : Nat} {a1 : Bool} {z1 : Value} {y1 : Nat} {cs : List Value} {pl : List (Nat × Nat)} (g : Go C (.ops ops S r :: k) (setE o.dst (.agg cs.toArray) E) Ps Os) (hr : runR tbl C.N n k0 E0 = some (.ops ops S (.one 0 false o r) :: k, E) := by exact rfl) (hw : wants ops E o = some true := by exact rfl)
    (ho : o.op = .build t parts := by exact rfl) (hi : lookT tbl t = some ⟨.struct fs, s1, a1, z1, y1⟩ := by exact rfl) (hpl : sizes tbl fs.toList = some pl := by exact rfl) (hc : bparts tbl fs.toList E (cellsL z1) parts.toList = some cs := by rfl) (hd : okDst C.N o.dst = true := by exact rfl) (ht : TOk C.P tbl := by exact Tk) : Go C k0 E0 Ps Os :=
  run_ok ht n hr (go_val0 hw (fun a w hp ho' hf hs => build_val ht ho hi hpl hc a w hf) hd g)
theorem zJ (n : Nat) {m : Nat} {kPs : List PA} {kOs rr : List OA} (g : Go C (.ops ops (SatS kPs kOs) r :: k) (setE o.dst undef E) Ps Os) (hr : runR tbl C.N n k0 E0 = some (.ops ops (SatS kPs kOs) (.one (m + 2) f o r) :: k, E) := by exact rfl) (hw : wants ops E o = some false := by exact rfl)
    (hkP : Subs Ps kPs := by repeat constructor) (hkO : Takes Os kOs rr := by repeat constructor) (hd : okDst C.N o.dst = true := by exact rfl) (ht : TOk C.P tbl := by exact Tk) : Go C k0 E0 Ps Os := run_ok ht n hr (go_skip2 hw hkP hkO hd g)
def okKd : Nat → Bool → Bool
  | 0, false => true
  | 1, _ => true
  | _, _ => false
theorem go_kd {kd : Nat} (hk : okKd kd f = true) {v : Value} (hw : wants ops E o = some true) (h : ∀ Ps Os a w hp ho, Fits C.N E a → Sat w hp ho Ps Os → (execOp a.eval o).run C.P w = .ok (.value v) w) (hd : okDst C.N o.dst = true)
    (g : Go C (.ops ops S r :: k) (setE o.dst v E) Ps Os) : Go C (.ops ops S (.one kd f o r) :: k) E Ps Os := by
  match kd, f, hk with
  | 0, false, _ => exact go_val0 hw (h Ps Os) hd g
  | 1, f, _ => exact go_val1 hw (h [] []) hd g
theorem zI (n : Nat) {kd : Nat} {t e : TypeId} {x y : Operand} {b oo m c : Nat} {kk : IntKind} {j : Int} {s1 : Nat} {a1 : Bool} {z1 : Value} {y1 : Nat} {i : TI} (g : Go C (.ops ops S r :: k) (setE o.dst (.pointer (some ⟨b, oo + j.toNat * i.size, none⟩)) E) Ps Os)
    (hr : runR tbl C.N n k0 E0 = some (.ops ops S (.one kd f o r) :: k, E) := by exact rfl) (hk : okKd kd f = true := by exact rfl) (hw : wants ops E o = some true := by exact rfl) (ho : o.op = .indexAddr t x y := by exact rfl)
    (hx : ev E x = some (.slice (some ⟨b, oo, none⟩) m c) := by exact rfl) (hy : ev E y = some (.int kk j) := by exact rfl) (hi : lookT tbl t = some ⟨.slice e, s1, a1, z1, y1⟩ := by exact rfl) (he : lookT tbl e = some i := by exact rfl) (hd : okDst C.N o.dst = true := by exact rfl) (hj : 0 ≤ j ∧ j < m := by omega) (ht : TOk C.P tbl := by exact Tk) : Go C k0 E0 Ps Os :=
  run_ok ht n hr (go_kd hk hw (fun Ps Os => idx_val (Ps := Ps) (Os := Os) ht ho hx hy hi he hj) hd g)
theorem zIA (n : Nat) {kd : Nat} {t e : TypeId} {x y : Operand} {b oo m : Nat} {kk : IntKind} {j : Int} {s1 : Nat} {a1 : Bool} {z1 : Value} {y1 : Nat} {i : TI} (g : Go C (.ops ops S r :: k) (setE o.dst (.pointer (some ⟨b, oo + j.toNat * i.size, none⟩)) E) Ps Os)
    (hr : runR tbl C.N n k0 E0 = some (.ops ops S (.one kd f o r) :: k, E) := by exact rfl) (hk : okKd kd f = true := by exact rfl) (hw : wants ops E o = some true := by exact rfl) (ho : o.op = .indexAddr t x y := by exact rfl)
    (hx : ev E x = some (.pointer (some ⟨b, oo, none⟩)) := by exact rfl) (hy : ev E y = some (.int kk j) := by exact rfl) (hi : lookT tbl t = some ⟨.array m e, s1, a1, z1, y1⟩ := by exact rfl) (he : lookT tbl e = some i := by exact rfl) (hd : okDst C.N o.dst = true := by exact rfl) (hj : 0 ≤ j ∧ j < m := by omega) (ht : TOk C.P tbl := by exact Tk) : Go C k0 E0 Ps Os :=
  run_ok ht n hr (go_kd hk hw (fun Ps Os => idxA_val (Ps := Ps) (Os := Os) ht ho hx hy hi he hj) hd g)
theorem zIn (n j : Nat) {kd : Nat} {t e : TypeId} {x y : Operand} {b m c : Nat} {kk : IntKind} {s1 : Nat} {a1 : Bool} {z1 : Value} {y1 : Nat} {u : TypeDesc} {a2 : Bool} {z2 : Value} {y2 : Nat} (g : Go C (.ops ops S r :: k) (setE o.dst (.pointer (some ⟨b, 0 + j * 1, none⟩)) E) Ps Os)
    (hr : runR tbl C.N n k0 E0 = some (.ops ops S (.one kd f o r) :: k, E) := by exact rfl) (hk : okKd kd f = true := by exact rfl) (hw : wants ops E o = some true := by exact rfl) (ho : o.op = .indexAddr t x y := by exact rfl)
    (hx : ev E x = some (.slice (some ⟨b, 0, none⟩) m c) := by exact rfl) (hy : ev E y = some (.int kk (j : Int)) := by exact rfl) (hi : lookT tbl t = some ⟨.slice e, s1, a1, z1, y1⟩ := by exact rfl) (he : lookT tbl e = some ⟨u, 1, a2, z2, y2⟩ := by exact rfl) (hd : okDst C.N o.dst = true := by exact rfl) (hj : j < m := by omega) (ht : TOk C.P tbl := by exact Tk) : Go C k0 E0 Ps Os :=
  run_ok ht n hr (go_kd hk hw (fun Ps Os => idx_val (Ps := Ps) (Os := Os) ht ho hx hy hi he ⟨by omega, by omega⟩) hd g)
theorem zC (n : Nat) {c : Call} {g0 : FuncId} {l : List Value} {Ps1 : List PA} {Os1 rr : List OA} {Q : Value → List PA → List OA → Prop} (hsp : Spec C.P g0 l.toArray Ps1 Os1 Q) (g : ∀ v Ps' Os', Q v Ps' Os' → Go C (.ops ops S r :: k) (setE o.dst v E) (Ps' ++ Ps) (Os' ++ rr))
    (hr : runR tbl C.N n k0 E0 = some (.ops ops S (.one 0 false o r) :: k, E) := by exact rfl) (ho : o.op = .call c := by exact rfl) (hw : wants ops E o = some true := by exact rfl) (hc : calleeOf E c = some (g0, l) := by rfl) (hd : okDst C.N o.dst = true := by exact rfl) (hP : Subs Ps Ps1 := by repeat constructor) (hO : Takes Os Os1 rr := by repeat constructor) (ht : TOk C.P tbl := by exact Tk) : Go C k0 E0 Ps Os :=
  run_ok ht n hr (go_call hsp ho hw hc hd hP hO zF g)
theorem zC3 (n : Nat) {c : Call} {g0 : FuncId} {l : List Value} {Ps1 p : List PA} {Os1 rr q : List OA} {a : Value} (hsp : Spec C.P g0 l.toArray Ps1 Os1 (fun v Ps' Os' => v = a ∧ Ps' = p ∧ Os' = q)) (g : Go C (.ops ops S r :: k) (setE o.dst a E) (p ++ Ps) (q ++ rr))
    (hr : runR tbl C.N n k0 E0 = some (.ops ops S (.one 0 false o r) :: k, E) := by exact rfl) (ho : o.op = .call c := by exact rfl) (hw : wants ops E o = some true := by exact rfl) (hc : calleeOf E c = some (g0, l) := by rfl) (hd : okDst C.N o.dst = true := by exact rfl) (hP : Subs Ps Ps1 := by repeat constructor) (hO : Takes Os Os1 rr := by repeat constructor) (ht : TOk C.P tbl := by exact Tk) : Go C k0 E0 Ps Os :=
  run_ok ht n hr (go_call hsp ho hw hc hd hP hO zF (fun v P O h => by obtain ⟨rfl, rfl, rfl⟩ := h; exact g))
theorem zS (n : Nat) {t : TypeId} {x y : Operand} {i : TI} {b oo : Nat} {ty : TypeId} {v : Value} {cs cs' : List Value} {rr : List OA} (g : Go C (.ops ops S r :: k) (setE o.dst undef E) Ps (pt b ty cs' :: rr))
    (hr : runR tbl C.N n k0 E0 = some (.ops ops S (.one 0 false o r) :: k, E) := by exact rfl) (ho : o.op = .store t x y := by exact rfl) (hw : wants ops E o = some true := by exact rfl) (hx : ev E x = some (.pointer (some ⟨b, oo, none⟩)) := by exact rfl) (hy : ev E y = some v := by exact rfl) (hi : lookT tbl t = some i := by exact rfl) (hd : okDst C.N o.dst = true := by exact rfl)
    (hq : Rem (pt b ty cs) Os rr := by repeat constructor) (hl : Nat.beq (cellsL v).length i.size = true := by exact rfl) (h1 : oneCells (cellsL v) = true := by exact rfl) (hc : putL oo (cellsL v) cs = some cs' := by rfl) (ht : TOk C.P tbl := by exact Tk) : Go C k0 E0 Ps Os :=
  run_ok ht n hr (go_store ht ho hw hx hy hi hd hq hl h1 hc zF g)
theorem zX (n : Nat) {t : TypeId} {x : Operand} {v : Value} {i : TI} {cs : List Value} (g : ∀ b, Go C (.ops ops S r :: k) (setE o.dst (.pointer (some ⟨b, 0, none⟩)) E) Ps (pt b t cs :: Os)) (hr : runR tbl C.N n k0 E0 = some (.ops ops S (.one 0 false o r) :: k, E) := by exact rfl)
    (ho : o.op = .box t x := by exact rfl) (hw : wants ops E o = some true := by exact rfl) (hx : ev E x = some v := by exact rfl) (hi : lookT tbl t = some i := by exact rfl) (hc : takeL i.size (cellsL v) = some cs := by rfl) (hl : Nat.beq (cellsL v).length i.size = true := by exact rfl) (hd : okDst C.N o.dst = true := by exact rfl) (ht : TOk C.P tbl := by exact Tk) : Go C k0 E0 Ps Os :=
  run_ok ht n hr (go_box ht ho hw hx hi hc hl hd zF g)
theorem zW (n : Nat) {t : TypeId} {i : TI} {cs : List Value} (g : ∀ b, Go C (.ops ops S r :: k) (setE o.dst (.pointer (some ⟨b, 0, none⟩)) E) Ps (pt b t cs :: Os)) (hr : runR tbl C.N n k0 E0 = some (.ops ops S (.one 0 false o r) :: k, E) := by exact rfl)
    (ho : o.op = .alloc t := by exact rfl) (hw : wants ops E o = some true := by exact rfl) (hi : lookT tbl t = some i := by exact rfl) (hc : takeL i.size (cellsL i.zero) = some cs := by rfl) (hl : Nat.beq (cellsL i.zero).length i.size = true := by exact rfl) (hd : okDst C.N o.dst = true := by exact rfl) (ht : TOk C.P tbl := by exact Tk) : Go C k0 E0 Ps Os :=
  run_ok ht n hr (go_alloc ht ho hw hi hc hl hd zF g)
theorem zV (n : Nat) {t e m : Nat} {parts : Array (Nat × Operand)} {s1 : Nat} {a1 : Bool} {z1 : Value} {y1 : Nat} {i : TI} {cs : List Value} (g : ∀ b, Go C (.ops ops S r :: k) (setE o.dst (.slice (some ⟨b, 0, none⟩) m m) E) Ps (pt b e cs :: Os)) (hr : runR tbl C.N n k0 E0 = some (.ops ops S (.one 0 false o r) :: k, E) := by exact rfl)
    (ho : o.op = .buildSlice t m parts := by exact rfl) (hw : wants ops E o = some true := by exact rfl) (hi : lookT tbl t = some ⟨.slice e, s1, a1, z1, y1⟩ := by exact rfl) (he : lookT tbl e = some i := by exact rfl) (hc : bcells i.size E 0 parts.toList = some cs := by exact rfl) (hl : Nat.beq cs.length (m * i.size) = true := by exact rfl) (hb : Nat.ble (m * i.size) 16777216 = true := by exact rfl) (hd : okDst C.N o.dst = true := by exact rfl) (ht : TOk C.P tbl := by exact Tk) : Go C k0 E0 Ps Os :=
  run_ok ht n hr (go_bslice ht ho hw hi he hc hl hb hd zF g)
theorem zSE {α : Type} (n : Nat) (T : Ty α) (xs : List α) (j : Nat) (z : α) {t : TypeId} {x y : Operand} {i : TI} {e b c : Nat} {v : Value} {vs : List Value} {rr : List OA} (hm : Ent Ps (rp T z vs)) (g : Go C (.ops ops S r :: k) (setE o.dst undef E) Ps (ol T e (some ⟨b, 0, none⟩) c (xs.set j z) :: rr))
    (hr : runR tbl C.N n k0 E0 = some (.ops ops S (.one 0 f o r) :: k, E) := by exact rfl) (ho : o.op = .store t x y := by exact rfl) (hw : wants ops E o = some true := by exact rfl) (hx : ev E x = some (.pointer (some ⟨b, 0 + j * T.size, none⟩)) := by exact rfl) (hy : ev E y = some v := by exact rfl) (hi : lookT tbl t = some i := by exact rfl) (hd : okDst C.N o.dst = true := by exact rfl)
    (hq : Rem (ol T e (some ⟨b, 0, none⟩) c xs) Os rr := by repeat constructor) (hj : j < xs.length := by first | omega | (rw [List.length_set]; omega)) (hv : takeL i.size (cellsL v) = some vs := by exact rfl) (hl : Nat.beq (cellsL v).length i.size = true := by exact rfl)
    (hS : f = true → ∀ w hp ho, Sat w hp ho Ps (ol T e (some ⟨b, 0, none⟩) c (xs.set j z) :: rr) → S w := by exact (nk (by kernel_rfl))) (ht : TOk C.P tbl := by exact Tk) : Go C k0 E0 Ps Os :=
  run_ok ht n hr (go_store_el ht z ho hw hx hy hi hd hq hj hv hl hm hS g)
theorem zD (n : Nat) {c : Operand} {x y : Code} {φ : Prop} {i : Decidable φ} (g1 : φ → Go C (.code x :: k) E Ps Os) (g2 : ¬φ → Go C (.code y :: k) E Ps Os) (hr : runR tbl C.N n k0 E0 = some (.code (.cond c x y) :: k, E) := by exact rfl) (h : ev E c = some (.bool (@decide φ i)) := by exact rfl) (ht : TOk C.P tbl := by exact Tk) : Go C k0 E0 Ps Os := run_ok ht n hr (go_condD h g1 g2)
theorem zD' (n : Nat) {c : Operand} {x y : Code} {φ : Prop} {i : Decidable φ} (g2 : ¬φ → Go C (.code y :: k) E Ps Os) (g1 : φ → Go C (.code x :: k) E Ps Os) (hr : runR tbl C.N n k0 E0 = some (.code (.cond c x y) :: k, E) := by exact rfl) (h : ev E c = some (.bool (@decide φ i)) := by exact rfl) (ht : TOk C.P tbl := by exact Tk) : Go C k0 E0 Ps Os := run_ok ht n hr (go_condD h g1 g2)
theorem zN (n : Nat) {c : Operand} {x y : Code} {φ : Prop} {i : Decidable φ} (g1 : ¬φ → Go C (.code x :: k) E Ps Os) (g2 : φ → Go C (.code y :: k) E Ps Os) (hr : runR tbl C.N n k0 E0 = some (.code (.cond c x y) :: k, E) := by exact rfl) (h : ev E c = some (.bool (!@decide φ i)) := by exact rfl) (ht : TOk C.P tbl := by exact Tk) : Go C k0 E0 Ps Os := run_ok ht n hr (go_condN h g1 g2)
theorem zN' (n : Nat) {c : Operand} {x y : Code} {φ : Prop} {i : Decidable φ} (g2 : φ → Go C (.code y :: k) E Ps Os) (g1 : ¬φ → Go C (.code x :: k) E Ps Os) (hr : runR tbl C.N n k0 E0 = some (.code (.cond c x y) :: k, E) := by exact rfl) (h : ev E c = some (.bool (!@decide φ i)) := by exact rfl) (ht : TOk C.P tbl := by exact Tk) : Go C k0 E0 Ps Os := run_ok ht n hr (go_condN h g1 g2)
theorem zB (n : Nat) {c : Operand} {x y : Code} {b : Bool} (g1 : b = true → Go C (.code x :: k) E Ps Os) (g2 : b = false → Go C (.code y :: k) E Ps Os) (hr : runR tbl C.N n k0 E0 = some (.code (.cond c x y) :: k, E) := by exact rfl) (h : ev E c = some (.bool b) := by exact rfl) (ht : TOk C.P tbl := by exact Tk) : Go C k0 E0 Ps Os := run_ok ht n hr (go_cond h g1 g2)
theorem zB' (n : Nat) {c : Operand} {x y : Code} {b : Bool} (g2 : b = false → Go C (.code y :: k) E Ps Os) (g1 : b = true → Go C (.code x :: k) E Ps Os) (hr : runR tbl C.N n k0 E0 = some (.code (.cond c x y) :: k, E) := by exact rfl) (h : ev E c = some (.bool b) := by exact rfl) (ht : TOk C.P tbl := by exact Tk) : Go C k0 E0 Ps Os := run_ok ht n hr (go_cond h g1 g2)
theorem zG (n d : Nat) {b : Bool} (g1 : b = true → Go C k ((d, .bool true) :: E) Ps Os) (g2 : b = false → Go C k ((d, .bool false) :: E) Ps Os) (hr : runR tbl C.N n k0 E0 = some (k, E) := by exact rfl) (h : look E d = some (.bool b) := by exact rfl) (ht : TOk C.P tbl := by exact Tk) : Go C k0 E0 Ps Os := run_ok ht n hr (go_known d h g1 g2)
theorem zG' (n d : Nat) {b : Bool} (g2 : b = false → Go C k ((d, .bool false) :: E) Ps Os) (g1 : b = true → Go C k ((d, .bool true) :: E) Ps Os) (hr : runR tbl C.N n k0 E0 = some (k, E) := by exact rfl) (h : look E d = some (.bool b) := by exact rfl) (ht : TOk C.P tbl := by exact Tk) : Go C k0 E0 Ps Os := run_ok ht n hr (go_known d h g1 g2)
theorem zDt (n : Nat) {c : Operand} {x y : Code} (g : Go C (.code x :: k) E Ps Os) (hr : runR tbl C.N n k0 E0 = some (.code (.cond c x y) :: k, E) := by exact rfl) (h : ev E c = some (.bool true) := by exact rfl) (ht : TOk C.P tbl := by exact Tk) : Go C k0 E0 Ps Os := run_ok ht n hr (go_cond_t h g)
theorem zDf (n : Nat) {c : Operand} {x y : Code} (g : Go C (.code y :: k) E Ps Os) (hr : runR tbl C.N n k0 E0 = some (.code (.cond c x y) :: k, E) := by exact rfl) (h : ev E c = some (.bool false) := by exact rfl) (ht : TOk C.P tbl := by exact Tk) : Go C k0 E0 Ps Os := run_ok ht n hr (go_cond_f h g)
def planC (l : List Nat) : List (Nat × Nat) := l.map fun x => (x % 3, x / 3)
def loadsC (l : List Nat) : List Nat := (planC l).filterMap fun x => cond (Nat.beq x.1 2) (some x.2) none
theorem zY (n : Nat) (l : List Nat) {id : Nat} (g : Go C (.ops ops (SatS Ps Os) (stepsOf ops (Region.before ops) (loadsC l) (SL.pre (planC l) .nil)) :: k) E Ps Os) (hr : runR tbl C.N n k0 E0 = some (.code (.region id ops true) :: k, E) := by exact rfl)
    (nd : noDefs ops.toList = true := by exact rfl) (hp : planFits ops (loadsC l) (SL.pre (planC l) .nil) = true := by kernel_rfl) (hm : C.P.follows .mixedOrders = true := by exact mixed) (ht : TOk C.P tbl := by exact Tk) : Go C k0 E0 Ps Os := run_ok ht n hr (go_draw' _ _ hm nd hp g)
def resE (E : Env) : List ResultVar → Option Value
  | [] => some (.tuple #[])
  | [.tmp a] => look E a
  | [.tmp a, .tmp b] => match look E a with
    | some u => match look E b with
      | some v => some (.tuple #[u, v])
      | none => none
    | none => none
  | [.tmp a, .tmp b, .tmp c] => match look E a with
    | some u => match look E b with
      | some v => match look E c with
        | some w => some (.tuple #[u, v, w])
        | none => none
      | none => none
    | none => none
  | _ => none
theorem resE_ok {v : Value} (h : resE E C.fn.results.toList = some v) (a : Act) (w : World) (hp ho : Heap) (hf : Fits C.N E a) (hs : Sat w hp ho Ps Os) : (results C.fn a.tmps).run C.P w = .ok v w := by
  have key : ∀ l : List ResultVar, C.fn.results.toList = l → C.fn.results = l.toArray := fun l e => by rw [← e]
  unfold resE at h
  split at h
  · rename_i e; cases h; exact res0 (key _ e) a w hp ho hf hs
  · rename_i e; exact res1 (key _ e) (.tmp h) a w hp ho hf hs
  · rename_i e
    split at h
    · split at h
      · rename_i q1 _ _ q2; cases h; exact res2 (key _ e) (.tmp q1) (.tmp q2) a w hp ho hf hs
      · cases h
    · cases h
  · rename_i e
    split at h
    · split at h
      · split at h
        · rename_i q1 _ _ q2 _ _ q3; cases h; exact res3 (key _ e) (.tmp q1) (.tmp q2) (.tmp q3) a w hp ho hf hs
        · cases h
      · cases h
    · cases h
  · cases h
def runV (tb : TB) (N : NN) (rs : List ResultVar) (n : Nat) (k : List It) (E : Env) : Option Value :=
  match runR tb N n k E with
  | some ([], E') => resE E' rs
  | some (.code .ret :: _, E') => resE E' rs
  | _ => none
theorem zT (n : Nat) {v : Value} {Ps' : List PA} {Os' rr : List OA} (hr : runV tbl C.N C.fn.results.toList n k0 E0 = some v) (q : C.Q v Ps' Os') (hP : Subs Ps Ps' := by repeat constructor) (hO : Takes Os Os' rr := by repeat constructor) (h0 : AtEnd C := by exact ⟨rfl, rfl⟩) (ht : TOk C.P tbl := by exact Tk) : Go C k0 E0 Ps Os := by
  unfold runV at hr
  split at hr
  · rename_i e; exact run_ok ht n e (go_end h0 _ _ (resE_ok hr) q hP hO)
  · rename_i e; exact run_ok ht n e (go_ret h0 _ _ (resE_ok hr) q hP hO)
  · cases hr
theorem look_app {A B : Env} : ∀ {l : Env}, LookAll E l → LookAll E B → LookAll E (l ++ B)
  | [], _, h => h
  | _ :: _, h, h2 => ⟨h.1, look_app (A := A) h.2 h2⟩
theorem zO {X : Type} {c : Code} (chg : X → Env) (ds : List Nat) (O' : X → List OA) (J : X → Prop) (μ : X → Nat) (x0 : X) {rest : Env} {rr : List OA} (hJ : J x0)
    (round : ∀ x, J x → Go C (.code c :: .back (Bk C chg rest (fun _ => Ps) (fun x => O' x ++ rr) J μ (μ x)) :: k) (chg x ++ rest) Ps (O' x ++ rr))
    (hE : LookAll E (chg x0) := by repeat first | exact trivial | refine ⟨rfl, ?_⟩) (hE2 : pickR E ds = some rest := by exact rfl) (hO : Takes Os (O' x0) rr := by repeat constructor) : Go C (.code (.loop c) :: k) E Ps Os :=
  go_loop' chg rest O' J μ x0 (look_app (A := E) hE (pickR_all hE2)) hO hJ round
theorem zU {X : Type} {c : Code} (chg : X → Env) (ds : List Nat) (O' : X → List OA) (On : List OA) (J : X → Prop) {rest : Env} {rr : List OA}
    (first : Go C (.code c :: .back (Bk C chg rest (fun _ => Ps) (fun x => O' x ++ rr) J (fun _ => 0) 1) :: k) E Ps Os)
    (then_ : ∀ x, J x → Go C k (chg x ++ rest) Ps (O' x ++ rr)) (hE : pickR E ds = some rest := by exact rfl) (hO : Takes Os On rr := by repeat constructor) : Go C (.code c :: k) E Ps Os := go_cutO chg rest O' On J (pickR_all hE) hO first then_
theorem zP {X : Type} {c : Code} (chg : X → Env) (ds : List Nat) (J : X → Prop) {rest : Env}
    (first : Go C (.code c :: .back (Bk C chg rest (fun _ => Ps) (fun _ => Os) J (fun _ => 0) 1) :: k) E Ps Os)
    (then_ : ∀ x, J x → Go C k (chg x ++ rest) Ps Os) (hE : pickR E ds = some rest := by exact rfl) : Go C (.code c :: k) E Ps Os := go_cut' chg rest J (pickR_all hE) first then_
theorem zz {X : Type} {chg : X → Env} {rest : Env} {P' : X → List PA} {O' : X → List OA} {J : X → Prop} {μ : X → Nat} {n : Nat} (y : X) {rr : List OA} (hJ : J y) (hm : μ y < n)
    (hE : LookAll E (chg y ++ rest) := by repeat first | exact trivial | refine ⟨rfl, ?_⟩) (hP : Subs Ps (P' y) := by repeat constructor) (hO : Takes Os (O' y) rr := by repeat constructor) : Go C (.back (Bk C chg rest P' O' J μ n) :: k) E Ps Os := go_back y hE hP hO hJ hm
end
theorem zSp {P : Program} {f : FuncId} {fn : Func} {c : Code} (args : List Value) {Ps : List PA} {Os : List OA} {Q : Value → List PA → List OA → Prop} {N : Nat} (hf : P.funcs[f]? = some fn) (hN : fn.ntmps = N)
    (g : ∀ w0 hp0 hf0, Go ⟨P, fn, ⟨N, []⟩, none, w0, hp0, hf0, Q, finF P fn (endR w0 hp0 hf0 Q), fun _ _ _ h => h, fun _ _ h => h⟩ [.code c] (envOf 0 args) Ps Os) (hb : fn.body = some c := by exact rfl) (hn : (fn.name == "runtime.NumGoroutine") = false := by kernel_rfl) (hl : args.length ≤ N := by exact Nat.le_of_ble_eq_true rfl) : Spec P f args.toArray Ps Os Q :=
  spec_of N hf hb hn hN hl g
end Go.Proofs.YtdconhalfanclaaGreat.SL

