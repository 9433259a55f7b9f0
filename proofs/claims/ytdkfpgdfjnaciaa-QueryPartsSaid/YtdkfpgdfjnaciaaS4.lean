/- Lists in memory: read, owned, grown. -/
import Derived.Test.YtdkfpgdfjnaciaaS3
import Derived.Laws.AppendOwn
set_option linter.unusedVariables false
set_option linter.unusedSimpArgs false
namespace Go.Proofs.Ytdkfpgdfjnaciaa.SL

/-- How a value of Lean stands in cells. -/
structure Ty (α : Type) where
  size : Nat
  rep : Heap → α → List Value → Prop
  len : ∀ {h x cs}, rep h x cs → cs.length = size
  one : ∀ {h x cs}, rep h x cs → oneCells cs = true
  up : ∀ {h h' : Heap} {x cs}, h.le h' → rep h x cs → rep h' x cs
def Ty.flat {α : Type} (T : Ty α) : Prop := ∀ h h' x cs, T.rep h x cs → T.rep h' x cs
def tInt (k : IntKind) : Ty Int := ⟨1, fun _ x cs => cs = [.int k x], fun h => by subst h; rfl, fun h => by subst h; rfl, fun _ h => h⟩
def tBool : Ty Bool := ⟨1, fun _ x cs => cs = [.bool x], fun h => by subst h; rfl, fun h => by subst h; rfl, fun _ h => h⟩
def tStr : Ty ByteArray := ⟨1, fun _ x cs => cs = [.string x], fun h => by subst h; rfl, fun h => by subst h; rfl, fun _ h => h⟩
theorem oneCells_append : ∀ (a b : List Value), oneCells a = true → oneCells b = true → oneCells (a ++ b) = true
  | [], b, _, h => h
  | v :: a, b, h1, h2 => by
    cases v <;> simp only [oneCells, List.cons_append] at h1 ⊢ <;> first | exact oneCells_append a b h1 h2 | cases h1
theorem oneCells_left : ∀ (a b : List Value), oneCells (a ++ b) = true → oneCells a = true
  | [], _, _ => rfl
  | v :: a, b, h => by cases v <;> simp only [oneCells, List.cons_append] at h ⊢ <;> first | exact oneCells_left a b h | cases h
theorem oneCells_right : ∀ (a b : List Value), oneCells (a ++ b) = true → oneCells b = true
  | [], _, h => h
  | v :: a, b, h => by cases v <;> simp only [oneCells, List.cons_append] at h <;> first | exact oneCells_right a b h | cases h
theorem oneCells_mem : ∀ {cs : List Value}, oneCells cs = true → ∀ u ∈ cs, u.oneCell' = true
  | [], _, u, hu => by cases hu
  | v :: r, h, u, hu => by
    rcases List.mem_cons.1 hu with rfl | hu
    · cases u <;> simp_all [oneCells, Value.oneCell']
    · exact oneCells_mem (by cases v <;> simp_all [oneCells]) u hu
def tPair {α β : Type} (T : Ty α) (U : Ty β) : Ty (α × β) :=
  ⟨T.size + U.size, fun h x cs => ∃ a b, cs = a ++ b ∧ T.rep h x.1 a ∧ U.rep h x.2 b,
    fun ⟨a, b, e, h1, h2⟩ => by subst e; simp [T.len h1, U.len h2],
    fun ⟨a, b, e, h1, h2⟩ => by subst e; exact oneCells_append _ _ (T.one h1) (U.one h2),
    fun hl ⟨a, b, e, h1, h2⟩ => ⟨a, b, e, T.up hl h1, U.up hl h2⟩⟩
def tIso {α β : Type} (T : Ty β) (f : α → β) : Ty α := ⟨T.size, fun h x cs => T.rep h (f x) cs, T.len, T.one, T.up⟩
/-- A slice whose cells are read. -/
def Sl {α : Type} (T : Ty α) (h : Heap) (A : Option Addr) (c : Nat) (xs : List α) : Prop :=
  xs.length ≤ c ∧ c ≤ maxLen ∧ (A = none → c = 0) ∧ ∀ j x, xs[j]? = some x → ∃ b o cs, A = some ⟨b, o, none⟩ ∧ T.rep h x cs ∧ ∀ i v, cs[i]? = some v → cellH h b (o + (j * T.size + i)) = some v
theorem Sl.up {α : Type} {T : Ty α} {h h' : Heap} {A : Option Addr} {c : Nat} {xs : List α} (hl : h.le h') (s : Sl T h A c xs) : Sl T h' A c xs :=
  ⟨s.1, s.2.1, s.2.2.1, fun j x hj => by
    obtain ⟨b, o, cs, e, r, hc⟩ := s.2.2.2 j x hj
    exact ⟨b, o, cs, e, T.up hl r, fun i v hi => cellH_le hl (hc i v hi)⟩⟩
def tSl {α : Type} (T : Ty α) : Ty (List α) := ⟨1, fun h xs cs => ∃ A c, cs = [.slice A xs.length c] ∧ Sl T h A c xs, fun ⟨_, _, e, _⟩ => by subst e; rfl, fun ⟨_, _, e, _⟩ => by subst e; rfl,
  fun hl ⟨A, c, e, s⟩ => ⟨A, c, e, s.up hl⟩⟩
def sl {α : Type} (T : Ty α) (A : Option Addr) (c : Nat) (xs : List α) : PA := ⟨fun h => Sl T h A c xs, fun hl h => h.up hl⟩
def rp {α : Type} (T : Ty α) (x : α) (cs : List Value) : PA := ⟨fun h => T.rep h x cs, fun hl h => T.up hl h⟩

section
variable {C : Ctx} {k : List It} {E : Env} {Ps : List PA} {Os : List OA}
theorem go_len {α : Type} {T : Ty α} {A : Option Addr} {c : Nat} {xs : List α} (h : sl T A c xs ∈ Ps) (g : xs.length ≤ c → c ≤ 9223372036854775807 → Go C k E Ps Os) : Go C k E Ps Os :=
  go_fact (φ := xs.length ≤ c ∧ c ≤ maxLen) _ h (fun _ s => ⟨s.1, s.2.1⟩) fun e => g e.1 (by have := e.2; simp only [maxLen] at this; omega)
/-- An element of a slice: where it lies. -/
theorem go_elem {α : Type} {T : Ty α} {A : Option Addr} {c : Nat} {xs : List α} (h : sl T A c xs ∈ Ps) (j : Nat) {x : α} (hj : xs[j]? = some x)
    (g : ∀ b o cs, A = some ⟨b, o, none⟩ → Go C k E (cl b (o + j * T.size) cs :: rp T x cs :: Ps) Os) : Go C k E Ps Os := fun a w hp ho hf hs hb => by
  obtain ⟨b, o, cs, e, r, hc⟩ := (hs.ps _ h).2.2.2 j x hj
  refine g b o cs e a w hp ho hf ⟨hs.inp, hs.ino, hs.dj, ?_, hs.os⟩ hb
  exact forall_cons (fun i v hi => by rw [Nat.add_assoc]; exact hc i v hi) (forall_cons r hs.ps)
theorem go_elem_int {kk : IntKind} {A : Option Addr} {c : Nat} {xs : List Int} (h : sl (tInt kk) A c xs ∈ Ps) (j : Nat) {x : Int} (hj : xs[j]? = some x)
    (g : ∀ b o, A = some ⟨b, o, none⟩ → Go C k E (cl b (o + j * 1) [.int kk x] :: Ps) Os) : Go C k E Ps Os :=
  go_elem h j hj fun b o cs e a w hp ho hf hs hb => by
    have hc : cs = [.int kk x] := hs.ps (rp (tInt kk) x cs) (.tail _ (.head _))
    subst hc
    exact g b o e a w hp ho hf ⟨hs.inp, hs.ino, hs.dj, forall_cons (hs.ps _ (.head _)) fun p hq => hs.ps p (.tail _ (.tail _ hq)), hs.os⟩ hb
theorem rp_int {kk : IntKind} {x : Int} {cs : List Value} (g : cs = [.int kk x] → Go C k E (rp (tInt kk) x cs :: Ps) Os) : Go C k E (rp (tInt kk) x cs :: Ps) Os := fun a w hp ho hf hs hb => g (hs.ps _ (.head _)) a w hp ho hf hs hb
theorem go_rp {α : Type} {T : Ty α} {x : α} {cs : List Value} (φ : Prop) (h : rp T x cs ∈ Ps) (e : ∀ h, T.rep h x cs → φ) (g : φ → Go C k E Ps Os) : Go C k E Ps Os := go_fact _ h e g

/-! ### index and slice expressions -/
variable {o : Oper} {ops : Array Oper} {S : World → Prop} {r : Pl} {f : Bool}
theorem go_val1 {v : Value} (hw : wants ops E o = some true) (h : ∀ a w hp ho, Fits C.N E a → Sat w hp ho [] [] → (execOp a.eval o).run C.P w = .ok (.value v) w) (hd : okDst C.N o.dst = true)
    (g : Go C (.ops ops S r :: k) (setE o.dst v E) Ps Os) : Go C (.ops ops S (.one 1 f o r) :: k) E Ps Os := fun a w hp ho hf hs hb =>
  ⟨v, .inl ⟨wants_eq hf hw, fun w' => h a w' Heap.nil Heap.nil hf ⟨Heap.nil_le _, Heap.nil_le _, Heap.nil_dj _, (fun _ h => nomatch h), trivial⟩⟩, g _ w hp ho (hf.put hd v) hs hb⟩
theorem idx_val {tb : TB} (ht : TOk C.P tb) {t e : TypeId} {x y : Operand} {b oo n c : Nat} {kk : IntKind} {j : Int} {s1 : Nat} {a1 : Bool} {z1 : Value} {y1 : Nat} {i : TI} (ho : o.op = .indexAddr t x y)
    (hx : ev E x = some (.slice (some ⟨b, oo, none⟩) n c)) (hy : ev E y = some (.int kk j)) (hi : lookT tb t = some ⟨.slice e, s1, a1, z1, y1⟩) (he : lookT tb e = some i) (hj : 0 ≤ j ∧ j < n) :
    ∀ a w hp ho, Fits C.N E a → Sat w hp ho Ps Os → (execOp a.eval o).run C.P w = .ok (.value (.pointer (some ⟨b, oo + j.toNat * i.size, none⟩))) w := fun a w hp ho' hf hs => by
  have hu := run_und (ht _ _ hi).u w
  have hs := (ht _ _ he).size w
  simp [execOp, ho, hf.ev hx, hf.ev hy, Instr.indexAt, asIntOf, hu, hj.1, hj.2, hs, run_addOff]
/-- x[lo:hi:max] of a slice. -/
theorem slice_val {tb : TB} (ht : TOk C.P tb) {t e : TypeId} {x : Operand} {lo hi mx : Option Operand} {A : Option Addr} {n c : Nat} {s1 : Nat} {a1 : Bool} {z1 : Value} {y1 : Nat} {i : TI} (ho : o.op = .slice t x lo hi mx)
    (hx : ev E x = some (.slice A n c)) (ht' : lookT tb t = some ⟨.slice e, s1, a1, z1, y1⟩) (he : lookT tb e = some i) {l h m : Nat}
    (hm : match mx with | none => m = c | some q => ∃ kk, ev E q = some (.int kk (m : Int))) (hh : match hi with | none => h = n ∧ mx = none | some q => ∃ kk, ev E q = some (.int kk (h : Int)))
    (hl : match lo with | none => l = 0 | some q => ∃ kk, ev E q = some (.int kk (l : Int))) (b1 : l ≤ h) (b2 : h ≤ m) (b3 : m ≤ c) :
    ∀ a w hp ho, Fits C.N E a → Sat w hp ho Ps Os → (execOp a.eval o).run C.P w = .ok (.value (.slice (if m = l then A else A.map (·.add (l * i.size))) (h - l) (m - l))) w := fun a w hp ho' hf hs => by
  have hu := run_und (ht _ _ ht').u w
  have hs := (ht _ _ he).size w
  have i1 : (m : Int) ≤ c := by omega
  have i2 : (h : Int) ≤ m := by omega
  have i3 : (l : Int) ≤ h := by omega
  have key : (Instr.sliceAt t (.slice A n c) (lo.map a.eval) (hi.map a.eval) (mx.map a.eval)).run C.P w = .ok (.slice (if m = l then A else A.map (·.add (l * i.size))) (h - l) (m - l)) w := by
    cases mx with
    | none =>
      subst hm
      cases hi with
      | none =>
        obtain ⟨rfl, _⟩ := hh
        cases lo with
        | none => subst hl; simp [Instr.sliceAt, Instr.slice, Instr.sliceBounds, hu, hs]
        | some q => obtain ⟨kk, e⟩ := hl; simp [Instr.sliceAt, Instr.slice, Instr.sliceBounds, Instr.sliceBound, asIntOf, hf.ev e, hu, hs, i3, b1]
      | some q2 =>
        obtain ⟨k2, e2⟩ := hh
        cases lo with
        | none => subst hl; simp [Instr.sliceAt, Instr.slice, Instr.sliceBounds, Instr.sliceBound, asIntOf, hf.ev e2, hu, hs, i2, b2]
        | some q => obtain ⟨kk, e⟩ := hl; simp [Instr.sliceAt, Instr.slice, Instr.sliceBounds, Instr.sliceBound, asIntOf, hf.ev e, hf.ev e2, hu, hs, i2, i3, b1, b2]
    | some q3 =>
      obtain ⟨k3, e3⟩ := hm
      cases hi with
      | none => obtain ⟨_, e⟩ := hh; cases e
      | some q2 =>
        obtain ⟨k2, e2⟩ := hh
        cases lo with
        | none => subst hl; simp [Instr.sliceAt, Instr.slice, Instr.sliceBounds, Instr.sliceBound, asIntOf, hf.ev e2, hf.ev e3, hu, hs, i1, i2, b2, b3]
        | some q => obtain ⟨kk, e⟩ := hl; simp [Instr.sliceAt, Instr.slice, Instr.sliceBounds, Instr.sliceBound, asIntOf, hf.ev e, hf.ev e2, hf.ev e3, hu, hs, i1, i2, i3, b1, b2, b3]
  simp [execOp, ho, hf.ev hx, key]
/-- What is read of a part. -/
theorem Sl.part {α : Type} {T : Ty α} {hh : Heap} {A : Option Addr} {c : Nat} {xs : List α} (s : Sl T hh A c xs) {l h m : Nat} (b1 : l ≤ h) (b2 : h ≤ m) (b3 : m ≤ c) (hx : h ≤ xs.length) :
    Sl T hh (if m = l then A else A.map (·.add (l * T.size))) (m - l) ((xs.drop l).take (h - l)) := by
  obtain ⟨s1, s2, s3, s4⟩ := s
  refine ⟨by simp; omega, by omega, fun e => ?_, fun j x hj => ?_⟩
  · split at e
    · omega
    · cases A with
      | none => have := s3 rfl; omega
      | some a => simp at e
  · rw [List.getElem?_take] at hj
    split at hj
    · rename_i hlt
      rw [List.getElem?_drop] at hj
      obtain ⟨b, o, cs, e, r, hc⟩ := s4 _ _ hj
      subst e
      have hml : m ≠ l := by omega
      refine ⟨b, o + l * T.size, cs, by simp [hml, run_addOff], r, fun i v hi => ?_⟩
      have := hc i v hi
      rw [Nat.add_mul] at this
      rw [show o + l * T.size + (j * T.size + i) = o + (l * T.size + j * T.size + i) from by omega]
      exact this
    · cases hj
end
end Go.Proofs.Ytdkfpgdfjnaciaa.SL
