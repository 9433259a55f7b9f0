/- Operations that hang on their operands alone. -/
import Derived.Test.YtdkfpgdfjnaciaaS1
import Derived.Laws.Sem
import Derived.Laws.Entries
set_option linter.unusedVariables false
set_option linter.unusedSimpArgs false
namespace Go.Proofs.Ytdkfpgdfjnaciaa.SL

structure TI where
  u : TypeDesc
  size : Nat
  agg : Bool
  zero : Value
  bytes : Nat
abbrev TB := List (Nat × TI)
def lookT : TB → Nat → Option TI
  | [], _ => none
  | (k, v) :: r, d => cond (Nat.beq k d) (some v) (lookT r d)
structure TOne (P : Program) (t : Nat) (i : TI) : Prop where
  u : P.underlying t = some i.u
  size : ∀ w, (sizeOf t).run P w = .ok i.size w
  agg : ∀ w, (isAgg t).run P w = .ok i.agg w
  zero : ∀ w, (zeroValue t).run P w = .ok i.zero w
  info : ∃ x, P.info? t = some x ∧ x.zero = some i.zero ∧ x.size = i.size ∧ x.bytes = i.bytes
def TOk (P : Program) (tb : TB) : Prop := ∀ t i, lookT tb t = some i → TOne P t i
theorem TOk.nil (P : Program) : TOk P [] := fun _ _ h => by cases h
theorem TOk.cons {P : Program} {t : Nat} {i : TI} {r : TB} (h : TOne P t i) (k : TOk P r) : TOk P ((t, i) :: r) := fun t' i' e => by
  simp only [lookT] at e
  cases hb : Nat.beq t t' with
  | true => rw [hb] at e; simp at e; subst e; rw [← Nat.eq_of_beq_eq_true hb]; exact h
  | false => rw [hb] at e; exact k t' i' e
theorem run_und {P : Program} {t : Nat} {u : TypeDesc} (h : P.underlying t = some u) (w : World) : (underlying t).run P w = .ok u w := by
  simp [underlying, program, Sem.run, h, bind, Sem.bind]

def sameK : IntKind → IntKind → Bool
  | .i8, .i8 | .i16, .i16 | .i32, .i32 | .i64, .i64 | .u8, .u8 | .u16, .u16 | .u32, .u32 | .u64, .u64 => true
  | _, _ => false
theorem sameK_eq {j k : IntKind} (h : sameK j k = true) : j = k := by cases j <;> cases k <;> simp_all [sameK]
def atL {α : Type} : List α → Nat → Option α
  | [], _ => none
  | a :: _, 0 => some a
  | _ :: r, n + 1 => atL r n
theorem atL_eq {α : Type} : ∀ (l : List α) (n : Nat), atL l n = l[n]?
  | [], _ => by simp [atL]
  | _ :: _, 0 => by simp [atL]
  | _ :: r, n + 1 => by simp [atL, atL_eq r n]
def takeL {α : Type} : Nat → List α → Option (List α)
  | 0, _ => some []
  | _ + 1, [] => none
  | n + 1, a :: r => match takeL n r with
    | some l => some (a :: l)
    | none => none
def dropL {α : Type} : Nat → List α → List α
  | 0, l => l
  | _ + 1, [] => []
  | n + 1, _ :: r => dropL n r
theorem dropL_eq {α : Type} : ∀ (n : Nat) (l : List α), dropL n l = l.drop n
  | 0, _ => rfl
  | _ + 1, [] => rfl
  | n + 1, _ :: r => by simp [dropL, dropL_eq n r]
theorem takeL_eq {α : Type} : ∀ {n : Nat} {l r : List α}, takeL n l = some r → r = l.take n ∧ r.length = n
  | 0, l, r, h => by simp [takeL] at h; subst h; simp
  | n + 1, [], r, h => by simp [takeL] at h
  | n + 1, a :: l, r, h => by
    simp only [takeL] at h
    split at h
    · rename_i l' e
      obtain ⟨h1, h2⟩ := takeL_eq e
      cases h
      simp [h1]
      rw [h1] at h2
      simpa using h2
    · cases h
def evs (E : Env) : List Operand → Option (List Value)
  | [] => some []
  | x :: r => match ev E x with
    | none => none
    | some v => match evs E r with
      | none => none
      | some l => some (v :: l)
theorem evs_eq {N : NN} {E : Env} {a : Act} (hf : Fits N E a) : ∀ {l : List Operand} {vs : List Value}, evs E l = some vs → l.map a.eval = vs
  | [], vs, h => by simp [evs] at h; simp [h]
  | x :: r, vs, h => by
    simp only [evs] at h
    split at h
    · cases h
    · rename_i v e1
      split at h
      · cases h
      · rename_i l e2
        cases h
        simp [hf.ev e1, evs_eq hf e2]

def intV (op : BinOp) (k : IntKind) (a b : Int) : Option Value :=
  match op with
  | .add => some (.int k (k.wrap (a + b)))
  | .sub => some (.int k (k.wrap (a - b)))
  | .mul => some (.int k (k.wrap (a * b)))
  | .eql => some (.bool (decide (a = b)))
  | .neq => some (.bool (!decide (a = b)))
  | .lss => some (.bool (decide (a < b)))
  | .leq => some (.bool (decide (a ≤ b)))
  | .gtr => some (.bool (decide (b < a)))
  | .geq => some (.bool (decide (b ≤ a)))
  | .quo => if b = 0 then none else some (.int k (k.wrap (a.tdiv b)))
  | .rem => if b = 0 then none else some (.int k (a.tmod b))
  | .and => some (.int k (k.wrap (BitVec.ofInt k.bits a &&& BitVec.ofInt k.bits b).toNat))
  | .or => some (.int k (k.wrap (BitVec.ofInt k.bits a ||| BitVec.ofInt k.bits b).toNat))
  | .xor => some (.int k (k.wrap (BitVec.ofInt k.bits a ^^^ BitVec.ofInt k.bits b).toNat))
  | .andNot => some (.int k (k.wrap (BitVec.ofInt k.bits a &&& ~~~BitVec.ofInt k.bits b).toNat))
  | .shl => match b with
    | .ofNat n => some (.int k (k.wrap (a * 2 ^ Nat.min n k.bits)))
    | .negSucc _ => none
  | .shr => match b with
    | .ofNat n => some (.int k (a.fdiv (2 ^ Nat.min n k.bits)))
    | .negSucc _ => none
def strV (op : BinOp) (a b : ByteArray) : Option Value :=
  match op with
  | .eql => some (.bool (a.toList == b.toList))
  | .neq => some (.bool (!(a.toList == b.toList)))
  | _ => none
def isShift : BinOp → Bool
  | .shl | .shr => true
  | _ => false
def binV (tb : TB) (op : BinOp) (t : TypeId) : Value → Value → Option Value
  | .int k a, .int k' b => cond (isShift op || sameK k k') (intV op k a b) none
  | .string a, .string b => strV op a b
  | .bool a, .bool b => match lookT tb t with
    | some ⟨.bool, _, _, _, _⟩ => match op with
      | .eql => some (.bool (a == b))
      | .neq => some (.bool (!(a == b)))
      | _ => none
    | _ => none
  | .pointer a, .pointer none => match lookT tb t with
    | some ⟨.pointer _, _, _, _, _⟩ => match op with
      | .eql => some (.bool a.isNone)
      | .neq => some (.bool (!a.isNone))
      | _ => none
    | _ => none
  | .slice a _ _, .slice none _ _ => match lookT tb t with
    | some ⟨.slice _, _, _, _, _⟩ => match op with
      | .eql => some (.bool a.isNone)
      | .neq => some (.bool (!a.isNone))
      | _ => none
    | _ => none
  | _, _ => none
def fieldV (tb : TB) (t : TypeId) (v : Value) (f : Nat) : Option Value :=
  match lookT tb t with
  | some ⟨.struct fs, _, _, _, _⟩ => match atL fs.toList f with
    | some fd => match lookT tb fd.type with
      | some ⟨_, n, true, _, _⟩ => match v with
        | .agg cs => match takeL n (dropL fd.offset cs.toList) with
          | some l => some (.agg l.toArray)
          | none => none
        | _ => none
      | some ⟨_, _, false, _, _⟩ => match v with
        | .agg cs => atL cs.toList fd.offset
        | _ => none
      | none => none
    | none => none
  | _ => none
def fieldAddrV (tb : TB) (t : TypeId) (v : Value) (f : Nat) : Option Value :=
  match lookT tb t with
  | some ⟨.struct fs, _, _, _, _⟩ => match atL fs.toList f with
    | some fd => match lookT tb fd.type with
      | some ⟨_, _ + 1, _, _, _⟩ => match v with
        | .pointer (some ⟨b, o, none⟩) => some (.pointer (some ⟨b, o + fd.offset, none⟩))
        | _ => none
      | _ => none
    | none => none
  | _ => none
def lenV (tb : TB) (t : TypeId) : Value → Option Value
  | .slice _ n _ => match lookT tb t with
    | some ⟨.slice _, _, _, _, _⟩ => some (.int .i64 (n : Int))
    | _ => none
  | .string s => match lookT tb t with
    | some ⟨.string, _, _, _, _⟩ => some (.int .i64 (s.size : Int))
    | _ => none
  | _ => none
def capV (tb : TB) (t : TypeId) : Value → Option Value
  | .slice _ _ n => match lookT tb t with
    | some ⟨.slice _, _, _, _, _⟩ => some (.int .i64 (n : Int))
    | _ => none
  | _ => none
def convV (tb : TB) (s t : TypeId) : Value → Option Value
  | .int _ n => match lookT tb s with
    | some ⟨.int _, _, _, _, _⟩ => match lookT tb t with
      | some ⟨.int k, _, _, _, _⟩ => some (.int k (k.wrap n))
      | _ => none
    | _ => none
  | .string x => match lookT tb s with
    | some ⟨.string, _, _, _, _⟩ => match lookT tb t with
      | some ⟨.string, _, _, _, _⟩ => some (.string x)
      | _ => none
    | _ => none
  | _ => none
def pureOp (tb : TB) (E : Env) (op : Op) : Option Value :=
  match op with
  | .move x => ev E x
  | .assign x => ev E x
  | .pick c x y => match ev E c with
    | some (.bool true) => ev E x
    | some (.bool false) => ev E y
    | _ => none
  | .binOp op t x y _ => match ev E x with
    | some u => match ev E y with
      | some v => binV tb op t u v
      | none => none
    | none => none
  | .unOp .not _ x => match ev E x with
    | some (.bool b) => some (.bool (!b))
    | _ => none
  | .unOp .neg _ x => match ev E x with
    | some (.int k n) => some (.int k (k.wrap (0 - n)))
    | _ => none
  | .convert s t x => match ev E x with
    | some v => convV tb s t v
    | none => none
  | .fieldAddr t x f => match ev E x with
    | some v => fieldAddrV tb t v f
    | none => none
  | .field t x f => match ev E x with
    | some v => fieldV tb t v f
    | none => none
  | .extract x i => match ev E x with
    | some (.tuple vs) => atL vs.toList i
    | _ => none
  | .nilCheck x => match ev E x with
    | some (.pointer (some a)) => some (.pointer (some a))
    | _ => none
  | .makeFunc fn first cap => match evs E first.toList with
    | some l1 => match evs E cap.toList with
      | some l2 => some (.func fn l1.toArray l2.toArray)
      | none => none
    | none => none
  | .call ⟨.builtin .len, args, tys⟩ => match args.toList with
    | [x] => match tys.toList with
      | [t] => match ev E x with
        | some v => lenV tb t v
        | none => none
      | _ => none
    | _ => none
  | .call ⟨.builtin .cap, args, tys⟩ => match args.toList with
    | [x] => match tys.toList with
      | [t] => match ev E x with
        | some v => capV tb t v
        | none => none
      | _ => none
    | _ => none
  | _ => none

section
variable {P : Program} {tb : TB} (ht : TOk P tb) (w : World)
theorem run_intV {op : BinOp} {k k' : IntKind} {a b : Int} {v : Value} (hk : (isShift op || sameK k k') = true) (h : intV op k a b = some v) (t : TypeId) : (binOp op t (.int k a) (.int k' b)).run P w = .ok v w := by
  cases op <;> simp only [isShift, Bool.false_or, Bool.true_or] at hk <;> (try have hk := sameK_eq hk) <;> (try subst hk) <;> simp only [intV] at h
  case shl =>
    cases b with
    | ofNat n => cases h; simp [binOp, Op.shift]; omega
    | negSucc n => cases h
  case shr =>
    cases b with
    | ofNat n => cases h; simp [binOp, Op.shift]; omega
    | negSucc n => cases h
  case quo =>
    split at h
    · cases h
    · rename_i hb; cases h; simp [binOp, Op.intDiv, hb]
  case rem =>
    split at h
    · cases h
    · rename_i hb; cases h; simp [binOp, Op.intDiv, hb]
  all_goals
    cases h
    first
      | (simp [binOp, Op.intArith, Op.intCmp, Op.intBits, bne]; done)
      | (simp [binOp, Op.intArith, Op.intCmp, Op.intBits, bne]; rfl)
theorem run_strV {op : BinOp} {a b : ByteArray} {v : Value} (h : strV op a b = some v) (t : TypeId) : (binOp op t (.string a) (.string b)).run P w = .ok v w := by
  cases op <;> simp only [strV] at h <;> cases h <;> simp [binOp, Op.stringOp]
theorem equal_succ (t : TypeId) (x y : Value) : Op.equal t x y = Op.equalIn (9999 + 1) t x y := rfl
theorem eq_bool {t : TypeId} (h : P.underlying t = some .bool) (d : Nat) (a b : Bool) : (Op.equalIn (d + 1) t (.bool a) (.bool b)).run P w = .ok (a == b) w := by
  have hu := run_und h w
  simp [Op.equalIn, hu]
theorem eq_ptr_none {t e : TypeId} (h : P.underlying t = some (.pointer e)) (d : Nat) (a : Option Addr) : (Op.equalIn (d + 1) t (.pointer a) (.pointer none)).run P w = .ok a.isNone w := by
  have hu := run_und h w
  cases a <;> simp [Op.equalIn, hu]
theorem eq_sl_none {t e : TypeId} (h : P.underlying t = some (.slice e)) (d : Nat) (a : Option Addr) (n c n' c' : Nat) : (Op.equalIn (d + 1) t (.slice a n c) (.slice none n' c')).run P w = .ok a.isNone w := by
  have hu := run_und h w
  cases a <;> simp [Op.equalIn, hu]
include ht in
theorem run_binV {op : BinOp} {t : TypeId} {x y v : Value} (h : binV tb op t x y = some v) : (binOp op t x y).run P w = .ok v w := by
  unfold binV at h
  split at h
  · rename_i k a k' b
    cases hb : (isShift op || sameK k k') with
    | true => rw [hb] at h; exact run_intV w hb h t
    | false => rw [hb] at h; cases h
  · exact run_strV w h t
  · split at h
    · rename_i e
      cases op <;> simp only at h <;> cases h <;> simp only [binOp, equal_succ] <;> simp [eq_bool w (ht _ _ e).u]
    · cases h
  · split at h
    · rename_i e
      cases op <;> simp only at h <;> cases h <;> simp only [binOp, equal_succ] <;> simp [eq_ptr_none w (ht _ _ e).u]
    · cases h
  · split at h
    · rename_i e
      cases op <;> simp only at h <;> cases h <;> simp only [binOp, equal_succ] <;> simp [eq_sl_none w (ht _ _ e).u]
    · cases h
  · cases h
theorem run_guard {op : BinOp} {t : TypeId} {x y : Operand} {a b v : Value} (h : binV tb op t a b = some v) : (eqGuard op t x y a b).run P w = .ok () w := by
  unfold binV at h
  unfold eqGuard
  split at h <;> first | (cases op <;> simp; done) | cases h
theorem run_addOff (b o n : Nat) : (⟨b, o, none⟩ : Addr).add n = ⟨b, o + n, none⟩ := by unfold Addr.add; split <;> simp_all
include ht in
theorem run_fieldAddrV {t f : Nat} {x v : Value} (h : fieldAddrV tb t x f = some v) : (Instr.fieldAt t x f).run P w = .ok v w := by
  unfold fieldAddrV at h
  split at h
  · rename_i e
    split at h
    · rename_i fd e2
      split at h
      · rename_i e3
        split at h
        · cases h
          have hu := run_und (ht _ _ e).u
          have hs := (ht _ _ e3).size
          rw [atL_eq, Array.getElem?_toList] at e2
          simp [Instr.fieldAt, hu, e2, Instr.sureAddr, fieldPlace, hs, run_addOff]
        · cases h
      · cases h
    · cases h
  · cases h
include ht in
theorem run_fieldV {t f : Nat} {x v : Value} (h : fieldV tb t x f = some v) : (Instr.field t x f).run P w = .ok v w := by
  unfold fieldV at h
  split at h
  · rename_i e
    split at h
    · rename_i fd e2
      have hu := run_und (ht _ _ e).u
      rw [atL_eq, Array.getElem?_toList] at e2
      split at h
      · rename_i e3
        have ha := (ht _ _ e3).agg
        have hs := (ht _ _ e3).size
        split at h
        · rename_i cs
          split at h
          · rename_i l e4
            cases h
            obtain ⟨h1, h2⟩ := takeL_eq e4
            rw [dropL_eq] at h1
            simp [Instr.field, hu, e2, asAgg, part, ha, hs]
            apply Array.ext'
            rw [h1]
            simp [List.extract_eq_take_drop]
          · cases h
        · cases h
      · rename_i e3
        have ha := (ht _ _ e3).agg
        split at h
        · rw [atL_eq, Array.getElem?_toList] at h
          simp [Instr.field, hu, e2, asAgg, part, ha, h]
        · cases h
      · cases h
    · cases h
  · cases h
include ht in
theorem run_lenV {t : TypeId} {x v : Value} (h : lenV tb t x = some v) (ty : TypeId) : (Builtin.len_ #[t] ty #[x]).run P w = .ok v w := by
  unfold lenV at h
  split at h
  all_goals
    first
    | (split at h
       · rename_i e
         have hu := run_und (ht _ _ e).u
         cases h
         simp [Builtin.len_, hu, goInt]
       · cases h)
    | cases h
include ht in
theorem run_capV {t : TypeId} {x v : Value} (h : capV tb t x = some v) (ty : TypeId) : (Builtin.cap_ #[t] ty #[x]).run P w = .ok v w := by
  unfold capV at h
  split at h
  all_goals
    first
    | (split at h
       · rename_i e
         have hu := run_und (ht _ _ e).u
         cases h
         simp [Builtin.cap_, hu, goInt]
       · cases h)
    | cases h
include ht in
theorem run_convV {s t : TypeId} {x v : Value} (h : convV tb s t x = some v) : (convert s t x).run P w = .ok v w := by
  unfold convV at h
  split at h
  all_goals
    first
    | (split at h
       · rename_i e1
         split at h
         · rename_i e2
           have hu := run_und (ht _ _ e1).u
           have hv := run_und (ht _ _ e2).u
           cases h
           simp [convert, hu, hv, Conv.intToInt]
         · cases h
       · cases h)
    | cases h

include ht in
theorem run_pure {N : NN} {E : Env} {a : Act} (hf : Fits N E a) {o : Oper} {v : Value} (h : pureOp tb E o.op = some v) : (execOp a.eval o).run P w = .ok (.value v) w := by
  obtain ⟨dst, op, ty, pos, after, guard⟩ := o
  simp only at h
  unfold pureOp at h
  split at h
  · simp [execOp, hf.ev h]
  · simp [execOp, hf.ev h]
  · split at h
    · rename_i e; simp [execOp, hf.ev e, asBool, hf.ev h]
    · rename_i e; simp [execOp, hf.ev e, asBool, hf.ev h]
    · cases h
  · split at h
    · rename_i e1
      split at h
      · rename_i e2
        simp [execOp, hf.ev e1, hf.ev e2, run_guard w h, run_binV ht w h]
      · cases h
    · cases h
  · split at h
    · rename_i e; cases h; simp [execOp, hf.ev e, Op.unary]
    · cases h
  · split at h
    · rename_i e; cases h; simp [execOp, hf.ev e, Op.unary, Op.intArith]
    · cases h
  · split at h
    · rename_i e; simp [execOp, hf.ev e, run_convV ht w h]
    · cases h
  · split at h
    · rename_i e; simp [execOp, hf.ev e, run_fieldAddrV ht w h]
    · cases h
  · split at h
    · rename_i e; simp [execOp, hf.ev e, run_fieldV ht w h]
    · cases h
  · split at h
    · rename_i e
      rw [atL_eq, Array.getElem?_toList] at h
      simp [execOp, hf.ev e, Instr.extract, h]
    · cases h
  · split at h
    · rename_i e; cases h; simp [execOp, hf.ev e]
    · cases h
  · split at h
    · rename_i e1
      split at h
      · rename_i e2
        cases h
        have h1 := evs_eq hf e1
        have h2 := evs_eq hf e2
        simp [execOp, Instr.makeFunc]
        constructor
        · apply Array.ext'; simpa using h1
        · apply Array.ext'; simpa using h2
      · cases h
    · cases h
  · rename_i args tys
    split at h
    · rename_i x ha
      split at h
      · rename_i t hty
        split at h
        · rename_i u e
          have a1 : args = #[x] := by apply Array.ext'; simpa using ha
          have a2 : tys = #[t] := by apply Array.ext'; simpa using hty
          subst a1; subst a2
          simp [execOp, resolve, invoke, builtin, hf.ev e, run_lenV ht w h]
        · cases h
      · cases h
    · cases h
  · rename_i args tys
    split at h
    · rename_i x ha
      split at h
      · rename_i t hty
        split at h
        · rename_i u e
          have a1 : args = #[x] := by apply Array.ext'; simpa using ha
          have a2 : tys = #[t] := by apply Array.ext'; simpa using hty
          subst a1; subst a2
          simp [execOp, resolve, invoke, builtin, hf.ev e, run_capV ht w h]
        · cases h
      · cases h
    · cases h
  · cases h
end
end Go.Proofs.Ytdkfpgdfjnaciaa.SL
