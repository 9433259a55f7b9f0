/- Engine, data and contracts: parts of the proof of FixMoreUpto, put together (DC Safea Safeb Safec Safed Safee Safef Safeg Joina Joinb Joinc DE Joind DB DF Joine DG Joinf DJ Fixa). -/
import Derived.Test.YtkhddfknpegpmaaMFixMoreUptoB
import Derived.Shelf.Small.Bits
import Derived.Ground.NamesProg
/- Literals and clauses; which may be. -/
set_option linter.unusedVariables false
set_option linter.unusedSimpArgs false
namespace Go.Proofs.Ytkhddfknpegpmaa.SL
structure Li where
  no : Bool
  a : Am
  deriving DecidableEq
structure Cl where
  h : Am
  b : List Li
  deriving DecidableEq
def tLi : Ty Li := tIso (tPair tBool tAm) (fun x => (x.no, x.a))
def tCl : Ty Cl := tIso (tPair tAm (tSl tLi)) (fun x => (x.h, x.b))
theorem tLi_open {h : Heap} {x : Li} {cs : List Value} (r : tLi.rep h x cs) : ∃ A c, cs = [.bool x.no, .int .u32 x.a.p, .slice A x.a.a.length c] ∧ Sl tTm h A c x.a.a := by
  obtain ⟨a, b, e, h1, h2⟩ := r
  obtain ⟨A, c, rfl, h3⟩ := tAm_open h2
  cases h1
  exact ⟨A, c, e, h3⟩
theorem tLi_mk {h : Heap} {x : Li} {A : Option Addr} {c : Nat} (s : Sl tTm h A c x.a.a) : tLi.rep h x [.bool x.no, .int .u32 x.a.p, .slice A x.a.a.length c] := ⟨[_], [_, _], rfl, rfl, tAm_mk s⟩
theorem tCl_open {h : Heap} {x : Cl} {cs : List Value} (r : tCl.rep h x cs) : ∃ A c B d, cs = [.int .u32 x.h.p, .slice A x.h.a.length c, .slice B x.b.length d] ∧ Sl tTm h A c x.h.a ∧ Sl tLi h B d x.b := by
  obtain ⟨a, b, e, h1, B, d, h2, h3⟩ := r
  obtain ⟨A, c, rfl, h4⟩ := tAm_open h1
  cases h2
  exact ⟨A, c, B, d, e, h4, h3⟩
theorem tCl_mk {h : Heap} {x : Cl} {A : Option Addr} {c : Nat} {B : Option Addr} {d : Nat} (s : Sl tTm h A c x.h.a) (t : Sl tLi h B d x.b) : tCl.rep h x [.int .u32 x.h.p, .slice A x.h.a.length c, .slice B x.b.length d] := ⟨[_, _], [_], rfl, tAm_mk s, B, d, rfl, t⟩
section
variable {C : Ctx} {k : List It} {E : Env} {Ps : List PA} {Os : List OA}
theorem go_elem_li {A : Option Addr} {c : Nat} {xs : List Li} (h : sl tLi A c xs ∈ Ps) (j : Nat) {x : Li} (hj : xs[j]? = some x)
    (g : ∀ b o A' c', A = some ⟨b, o, none⟩ → Go C k E (cl b (o + j * 3) [.bool x.no, .int .u32 x.a.p, .slice A' x.a.a.length c'] :: sl tTm A' c' x.a.a :: Ps) Os) : Go C k E Ps Os :=
  go_elem h j hj fun b o cs e a w hp ho hf hs hb => by
    obtain ⟨A', c', hc, hsl⟩ := tLi_open (hs.ps (rp tLi x cs) (.tail _ (.head _)))
    subst hc
    exact g b o A' c' e a w hp ho hf ⟨hs.inp, hs.ino, hs.dj, forall_cons (hs.ps _ (.head _)) (forall_cons hsl fun p hq => hs.ps p (.tail _ (.tail _ hq))), hs.os⟩ hb
theorem go_elem_cl {A : Option Addr} {c : Nat} {xs : List Cl} (h : sl tCl A c xs ∈ Ps) (j : Nat) {x : Cl} (hj : xs[j]? = some x)
    (g : ∀ b o A' c' B' d', A = some ⟨b, o, none⟩ → Go C k E (cl b (o + j * 3) [.int .u32 x.h.p, .slice A' x.h.a.length c', .slice B' x.b.length d'] :: sl tTm A' c' x.h.a :: sl tLi B' d' x.b :: Ps) Os) : Go C k E Ps Os :=
  go_elem h j hj fun b o cs e a w hp ho hf hs hb => by
    obtain ⟨A', c', B', d', hc, hsl, hsm⟩ := tCl_open (hs.ps (rp tCl x cs) (.tail _ (.head _)))
    subst hc
    exact g b o A' c' B' d' e a w hp ho hf ⟨hs.inp, hs.ino, hs.dj, forall_cons (hs.ps _ (.head _)) (forall_cons hsl (forall_cons hsm fun p hq => hs.ps p (.tail _ (.tail _ hq)))), hs.os⟩ hb
end
/-! ### searching -/
def idxP {α : Type} (p : α → Bool) (l : List α) : Int := match l.findIdx? p with | some j => (j : Int) | none => -1
theorem idxP_hit {α : Type} {p : α → Bool} {l : List α} {k : Nat} (hk : k < l.length) (hz : ∀ y ∈ l.take k, p y = false) (e : p l[k] = true) : idxP p l = (k : Int) := by
  unfold idxP
  have : l.findIdx? p = some k := by
    rw [List.findIdx?_eq_some_iff_getElem]
    refine ⟨hk, e, fun j hj => ?_⟩
    have := hz l[j] (List.mem_take_iff_getElem.2 ⟨j, by omega, rfl⟩)
    simp [this]
  rw [this]
theorem idxP_none {α : Type} {p : α → Bool} {l : List α} {k : Nat} (hk : l.length ≤ k) (hz : ∀ y ∈ l.take k, p y = false) : idxP p l = -1 := by
  unfold idxP
  have : l.findIdx? p = none := by
    rw [List.findIdx?_eq_none_iff]
    intro y hy
    rw [List.take_of_length_le hk] at hz
    simpa using hz y hy
  rw [this]
theorem idxP_any {α : Type} (p : α → Bool) (l : List α) : l.any p = decide (0 ≤ idxP p l) := by
  unfold idxP
  cases e : l.findIdx? p with
  | none =>
    rw [List.findIdx?_eq_none_iff] at e
    simp only [List.any_eq]
    rw [decide_eq_decide]
    constructor
    · rintro ⟨x, hx, hp⟩; rw [e x hx] at hp; cases hp
    · intro h; omega
  | some j =>
    rw [List.findIdx?_eq_some_iff_getElem] at e
    obtain ⟨hj, hp, _⟩ := e
    simp only [List.any_eq]
    rw [decide_eq_decide]
    constructor
    · intro _; omega
    · intro _; exact ⟨l[j], List.getElem_mem _, hp⟩
/-! ### numbers without repetitions -/
structure CmpI (l ys : List Int) (k m i : Nat) : Prop where
  len : ys.length = l.length
  k1 : 1 ≤ k
  lo : k ≤ m
  hi : m ≤ k + i - 1
  i1 : 1 ≤ i
  i2 : k + i ≤ l.length
  un : ∀ j, k + i - 1 ≤ j → ys[j]? = l[j]?
  mem : ∀ x, x ∈ ys.take m ↔ x ∈ l.take (k + i)
theorem mem_take_succ {l : List Int} {k : Nat} (h : k < l.length) (x : Int) : x ∈ l.take (k + 1) ↔ x ∈ l.take k ∨ x = l[k] := by
  rw [List.take_succ_eq_append_getElem h, List.mem_append, List.mem_singleton]
theorem getElem_mem_take {l : List Int} {j k : Nat} (hj : j < k) (hl : j < l.length) : l[j] ∈ l.take k := List.mem_take_iff_getElem.2 ⟨j, by omega, rfl⟩
theorem CmpI.start {l : List Int} {k : Nat} (h1 : 1 ≤ k) (h2 : k < l.length) (e : l[k] = l[k - 1]) : CmpI l l k k 1 := by
  refine ⟨rfl, h1, Nat.le_refl _, by omega, Nat.le_refl _, by omega, fun _ _ => rfl, fun x => ?_⟩
  rw [mem_take_succ h2]
  refine ⟨.inl, fun h => h.elim id fun h => ?_⟩
  rw [h, e]; exact getElem_mem_take (by omega) (by omega)
theorem CmpI.get {l ys : List Int} {k m i : Nat} (h : CmpI l ys k m i) (j : Nat) (hj : k + i - 1 ≤ j) (hl : j < l.length) : ys[j]'(by rw [h.len]; exact hl) = l[j] := by
  have := h.un j hj
  rw [List.getElem?_eq_getElem (by rw [h.len]; exact hl), List.getElem?_eq_getElem hl] at this
  exact Option.some.inj this
theorem CmpI.skip {l ys : List Int} {k m i : Nat} (h : CmpI l ys k m i) (hk : k + i < l.length) (e : l[k + i] = l[k + i - 1]) : CmpI l ys k m (i + 1) := by
  refine ⟨h.len, h.k1, h.lo, by have := h.hi; omega, by omega, by omega, fun j hj => h.un j (by omega), fun x => ?_⟩
  rw [h.mem, ← Nat.add_assoc, mem_take_succ hk]
  refine ⟨.inl, fun g => g.elim id fun g => ?_⟩
  rw [g, e]; exact getElem_mem_take (by have := h.k1; omega) (by omega)
theorem CmpI.keep {l ys : List Int} {k m i : Nat} (h : CmpI l ys k m i) (hk : k + i < l.length) : CmpI l (ys.set m (ys[k + i]'(by rw [h.len]; exact hk))) k (m + 1) (i + 1) := by
  have h1 := h.hi
  have h2 := h.i1
  have hl := h.len
  refine ⟨by rw [List.length_set, h.len], h.k1, by have := h.lo; omega, by omega, by omega, by omega, fun j hj => ?_, fun x => ?_⟩
  · rw [List.getElem?_set_ne (by omega)]; exact h.un j (by omega)
  · rw [← Nat.add_assoc, mem_take_succ hk, ← h.mem, ← h.get (k + i) (by omega) hk]
    rw [mem_take_succ (by rw [List.length_set]; omega), List.take_set_of_le (Nat.le_refl _), List.getElem_set_self]
theorem CmpI.done {l ys : List Int} {k m i : Nat} (h : CmpI l ys k m i) (hk : l.length ≤ k + i) (x : Int) : x ∈ ys.take m ↔ x ∈ l := by
  rw [h.mem, List.take_of_length_le hk]
/-! ### which may be -/
def mayA (a : Am) : Bool := decide (a.a.length ≤ 6) && !(a.a.any fun t => t.v && decide (16 ≤ t.n))
def mayC (c : Cl) : Bool := decide (c.b.length ≤ 8) && (mayA c.h && !(c.b.any fun l => !mayA l.a))
def ground (a : Am) : Bool := !(a.a.any fun t => t.v)
/-- the variables of an atom -/
def vars (a : Am) : List Int := (a.a.filter (·.v)).map (·.n)
theorem vars_len (a : Am) (k : Nat) : (vars ⟨a.p, a.a.take k⟩).length ≤ a.a.length := by
  unfold vars
  rw [List.length_map]
  exact Nat.le_trans (List.length_filter_le _ _) (by simp; omega)
theorem vars_yes {a : Am} {k : Nat} (hk : k < a.a.length) (e : a.a[k].v = true) : vars ⟨a.p, a.a.take (k + 1)⟩ = vars ⟨a.p, a.a.take k⟩ ++ [a.a[k].n] := by
  unfold vars
  simp only
  rw [List.take_succ_eq_append_getElem hk, List.filter_append, List.map_append, List.filter_cons_of_pos (by exact e)]; rfl
theorem vars_no {a : Am} {k : Nat} (hk : k < a.a.length) (e : a.a[k].v = false) : vars ⟨a.p, a.a.take (k + 1)⟩ = vars ⟨a.p, a.a.take k⟩ := by
  unfold vars
  simp only
  rw [List.take_succ_eq_append_getElem hk, List.filter_append, List.filter_cons_of_neg (by rw [e]; simp)]; simp
/-- those held by the literals that are not Not -/
def heldBy (c : Cl) : List Int := (c.b.filter fun l => !l.no).flatMap fun l => vars l.a
def heldC (c : Cl) : Bool := ((c.b.filter fun l => l.no).all fun l => (vars l.a).all fun v => decide (v ∈ heldBy c)) && (vars c.h).all fun v => decide (v ∈ heldBy c)
/-! ### lengths -/
/-- A map of numbers that holds 1 for those of a list. -/
def Ones (m : List (Int × Value)) (s : List Int) : Prop := ∀ v, mget m v = if v ∈ s then some (.int .i64 1) else none
theorem Ones.nil : Ones [] [] := fun v => by simp [mget]
theorem Ones.set {m : List (Int × Value)} {s : List Int} (h : Ones m s) (v : Int) : Ones (mset m v (.int .i64 1)) (v :: s) := fun x => by
  rw [mget_mset, h x]
  by_cases e : x = v
  · simp [e]
  · simp [e]
theorem Ones.same {m : List (Int × Value)} {s t : List Int} (h : Ones m s) (e : ∀ x, x ∈ s ↔ x ∈ t) : Ones m t := fun x => by rw [h x]; simp [e x]
abbrev Lens := Int → Option Int
def Lens.Is (m : List (Int × Value)) (L : Lens) : Prop := ∀ p, mget m p = (L p).map (.int .i64)
def fitB (L : Lens) (p n : Int) : Bool := match L p with | none => true | some k => decide (k = n)
def learn (L : Lens) (p n : Int) : Lens := fun q => if q = p ∧ L p = none then some n else L q
theorem Lens.Is.nil : Lens.Is [] (fun _ => none) := fun p => rfl
theorem Lens.Is.new {m : List (Int × Value)} {L : Lens} (h : Lens.Is m L) {p : Int} (e : L p = none) (n : Int) : Lens.Is (mset m p (.int .i64 n)) (learn L p n) := fun q => by
  rw [mget_mset, h q]
  unfold learn
  by_cases c : q = p
  · subst c; simp [e]
  · simp [c]
theorem learn_old {L : Lens} {p n k : Int} (e : L p = some k) : learn L p n = L := by
  funext q; unfold learn; rw [if_neg (by rw [e]; simp)]
def stepL (x : Bool × Lens) (a : Am) : Bool × Lens := (fitB x.2 a.p a.a.length && x.1, learn x.2 a.p a.a.length)
def clauseL (L : Lens) (c : Cl) : Bool × Lens := c.b.foldl (fun x l => stepL x l.a) (stepL (true, L) c.h)
theorem clause_next {L : Lens} {h : Am} {b : List Li} {k : Nat} (hk : k < b.length) : clauseL L ⟨h, b.take (k + 1)⟩ = stepL (clauseL L ⟨h, b.take k⟩) b[k].a := by
  unfold clauseL
  simp only
  rw [List.take_succ_eq_append_getElem hk, List.foldl_append]; rfl
/-! ### literals, one by one -/
abbrev Ax := Am × Option Addr × Nat
def encA (x : Ax) : Value := .agg #[.int .u32 x.1.p, .slice x.2.1 x.1.a.length x.2.2]
def pxA (pre : List Ax) (x : Ax) : List PA := [PA.and (x.1.a.length ≤ 12) (sl tTm x.2.1 x.2.2 x.1.a)]
def litsOf (b : List Li) (nt : Bool) : List Am := (b.filter fun l => l.no == nt).map (·.a)
theorem lits_yes {b : List Li} {nt : Bool} {k : Nat} (hk : k < b.length) (e : b[k].no = nt) : litsOf (b.take (k + 1)) nt = litsOf (b.take k) nt ++ [b[k].a] := by
  unfold litsOf
  rw [List.take_succ_eq_append_getElem hk, List.filter_append, List.map_append, List.filter_cons_of_pos (by simpa using e)]; rfl
theorem lits_no {b : List Li} {nt : Bool} {k : Nat} (hk : k < b.length) (e : ¬ b[k].no = nt) : litsOf (b.take (k + 1)) nt = litsOf (b.take k) nt := by
  unfold litsOf
  rw [List.take_succ_eq_append_getElem hk, List.filter_append, List.filter_cons_of_neg (by simpa using e)]; simp
theorem lits_mem {b : List Li} {nt : Bool} {k : Nat} {a : Am} (h : a ∈ litsOf (b.take k) nt) : a ∈ litsOf b nt := by
  unfold litsOf at *
  rw [List.mem_map] at *
  obtain ⟨l, h1, h2⟩ := h
  rw [List.mem_filter] at h1
  exact ⟨l, List.mem_filter.2 ⟨List.mem_of_mem_take h1.1, h1.2⟩, h2⟩
/-! ### programs -/
def badC (L : Lens) (c : Cl) : Int := if mayC c = false then 8 else if heldC c = false then 10 else if (clauseL L c).1 = false then 9 else 0
def rightF (L : Lens) : List Cl → Nat → Int × Int
  | [], _ => (0, 0)
  | c :: l, i => if badC L c = 0 then rightF (clauseL L c).2 l (i + 1) else ((i : Int), badC L c)
def rightC (l : List Cl) : Int × Int := if 400 < l.length then (0, 6) else rightF (fun _ => none) l 0
theorem may_len {c : Cl} (h : mayC c = true) : c.h.a.length ≤ 12 ∧ ∀ l ∈ c.b, l.a.a.length ≤ 12 := by
  unfold mayC at h
  simp only [Bool.and_eq_true, decide_eq_true_eq, Bool.not_eq_true', List.any_eq_false, Bool.not_eq_true, Bool.not_eq_false'] at h
  have key : ∀ a : Am, mayA a = true → a.a.length ≤ 12 := fun a ha => by
    unfold mayA at ha
    simp only [Bool.and_eq_true, decide_eq_true_eq] at ha
    omega
  exact ⟨key _ h.2.1, fun l hl => key _ (by simpa using h.2.2 l hl)⟩
theorem right_bad {L : Lens} {l : List Cl} {k : Nat} (hk : k < l.length) (h : badC L l[k] ≠ 0) : rightF L (l.drop k) k = ((k : Int), badC L l[k]) := by
  rw [List.drop_eq_getElem_cons hk, rightF, if_neg h]
theorem right_ok {L : Lens} {l : List Cl} {k : Nat} (hk : k < l.length) (h : badC L l[k] = 0) : rightF L (l.drop k) k = rightF (clauseL L l[k]).2 (l.drop (k + 1)) (k + 1) := by
  rw [List.drop_eq_getElem_cons hk, rightF, if_pos h]
/-- the fact that a ground atom is -/
def ofA (a : Am) : Fa := if ground a = true then ⟨a.p, a.a.map (·.n)⟩ else ⟨0, []⟩
/-! ### choices -/
def putT (few : List Int) (is : List Bool) (t : Tm) : Tm := if t.v = true ∧ is[t.n.toNat]? = some true then ⟨false, (few[t.n.toNat]?).getD 0⟩ else t
def putA (few : List Int) (is : List Bool) (a : Am) : Am := ⟨a.p, a.a.map (putT few is)⟩
theorem putT_no {few : List Int} {is : List Bool} {t : Tm} (h : t.v = false) : putT few is t = t := by unfold putT; rw [h]; simp
theorem putT_free {few : List Int} {is : List Bool} {t : Tm} {j : Nat} (hj : j < is.length) (e : t.n = (j : Int)) (h : is[j] = false) : putT few is t = t := by
  unfold putT; rw [e, Int.toNat_natCast, List.getElem?_eq_getElem hj, h]; simp
theorem putT_yes {few : List Int} {is : List Bool} {t : Tm} {j : Nat} (hv : t.v = true) (hf : j < few.length) (hj : j < is.length) (e : t.n = (j : Int)) (h : is[j] = true) : putT few is t = ⟨false, few[j]⟩ := by
  unfold putT; rw [e, Int.toNat_natCast, List.getElem?_eq_getElem hj, h, List.getElem?_eq_getElem hf]; simp [hv]
/-- the choice by which terms become numbers, from place i on -/
def meetL (f : List Int) : List Int × List Bool → List Tm → Nat → List Int × List Bool
  | x, [], _ => x
  | x, t :: l, i => meetL f (if t.v = true then (x.1.set t.n.toNat ((f[i]?).getD 0), x.2.set t.n.toNat true) else x) l (i + 1)
end Go.Proofs.Ytkhddfknpegpmaa.SL

/- Contracts of functions of the program (Safea): what each call comes to, for the laws' proofs. -/
set_option linter.unusedVariables false
set_option linter.unusedSimpArgs false
namespace Go.Proofs.Ytkhddfknpegpmaa.SL
open Go 

def SoTm (g : FuncId) (p : Tm → Bool) : Prop := ∀ t : Tm, Spec Try.prog g #[Value.agg #[.bool t.v, .int .u32 t.n]] [] [] (fun v Ps' Os' => v = .bool (p t) ∧ Ps' = [] ∧ Os' = [])
def SoLi (g : FuncId) (p : Li → Bool) : Prop := ∀ (x : Li) (A : Option Addr) (c : Nat), Spec Try.prog g #[Value.agg #[.bool x.no, .int .u32 x.a.p, .slice A x.a.a.length c]] [sl tTm A c x.a.a] [] (fun v Ps' Os' => v = .bool (p x) ∧ Ps' = [] ∧ Os' = [])

set_option maxHeartbeats 2000000 in
set_option maxRecDepth 20000 in
theorem indexFTm (L : Option Addr) (lc : Nat) (l : List Tm) (g : FuncId) (p : Tm → Bool) (hso : SoTm g p) :
    Spec Try.prog 95 #[.slice L l.length lc, .func (.func g) #[] #[]] [sl tTm L lc l] [] (fun v Ps' Os' => v = .int .i64 (idxP p l) ∧ Ps' = [] ∧ Os' = []) := by
 refine spec_of (fn := Try.f95) (args := [.slice L l.length lc, .func (.func g) #[] #[]]) 19 Try.func95 rfl (by kernel_rfl) Try.ntmps95 (Nat.le_of_ble_eq_true rfl) (fun w0 hp0 hf0 => ?_)
 refine go_seq ?_
 refine go_len (xs := l) (by repeat constructor) (fun l0 m0 => ?_)
 refine go_region rfl ?_
 refine go_pure0 Tk rfl rfl rfl ?_
 refine go_nil ?_
 refine go_env [(0, _), (1, _)] ⟨rfl, rfl, trivial⟩ ?_
 iterate 6 first | refine go_seq ?_ | refine go_region rfl ?_ | refine go_pure0 Tk rfl rfl rfl ?_
 refine go_nil ?_
 refine go_env [(0, _), (1, _), (7, _), (8, _)] ⟨rfl, rfl, rfl, rfl, trivial⟩ ?_
 refine go_block ?_
 refine go_loop' (X := Nat) (fun k => [(8, .int .i64 (k : Int))]) [(0, _), (1, _), (7, _)] (fun _ => []) (fun k => k ≤ l.length ∧ ∀ y ∈ l.take k, p y = false) (fun k => l.length - k) (0) ⟨rfl, rfl, rfl, rfl, trivial⟩ (by repeat constructor) ⟨by omega, by simp⟩ ?_
 intro k ⟨hk, hz⟩
 refine go_seq ?_
 refine go_region rfl ?_
 refine go_pure0 Tk rfl rfl rfl ?_
 refine go_nil ?_
 refine go_env [(0, _), (1, _), (7, _), (8, _), (9, _)] ⟨rfl, rfl, rfl, rfl, rfl, trivial⟩ ?_
 refine go_seq ?_
 refine go_condD rfl ?_ ?_
 ·intro hq1
  iterate 7 first | refine go_skip ?_ | refine go_seq ?_ | refine go_block ?_ | refine go_region rfl ?_ | refine go_pure0 Tk rfl rfl rfl ?_
  refine go_nil ?_
  refine go_env [(0, _), (1, _), (5, _), (7, _), (8, _)] ⟨rfl, rfl, rfl, rfl, rfl, trivial⟩ ?_
  refine go_seq ?_
  refine go_elem_tm (xs := l) (by repeat constructor) (k) (List.getElem?_eq_getElem (by omega)) (fun b0 o0 hA => ?_); cases hA
  iterate 4 first | refine go_region rfl ?_ | refine go_pure0 Tk rfl rfl rfl ?_
  refine go_val0 rfl (idx_val Tk rfl rfl rfl rfl rfl (by omega)) rfl ?_
  refine go_val0 rfl (ldv Tk rfl rfl rfl) rfl ?_
  refine go_call (hso l[k]) rfl rfl (by rfl) rfl (by repeat constructor) (by repeat constructor) (fun h => nomatch h) ?_
  rintro _ _ _ ⟨rfl, rfl, rfl⟩
  refine go_nil ?_
  refine go_env [(0, _), (1, _), (5, _), (7, _), (8, _), (16, _)] ⟨rfl, rfl, rfl, rfl, rfl, rfl, trivial⟩ ?_
  refine go_cond rfl ?_ ?_
  ·intro g1
   (try simp only [decide_eq_true_eq, decide_eq_false_iff_not, Bool.not_eq_true', Bool.not_eq_false', Bool.not_eq_eq_eq_not, Bool.not_true, Bool.not_false, Int.not_lt, Int.not_le, beq_iff_eq, beq_eq_false_iff_ne, ne_eq] at g1)
   iterate 4 first | refine go_seq ?_ | refine go_region rfl ?_ | refine go_pure0 Tk rfl rfl rfl ?_
   refine go_nil ?_
   refine go_env [(4, _)] ⟨rfl, trivial⟩ ?_
   refine go_ret ⟨rfl, rfl⟩ _ _ (res1 (by rfl) (.tmp rfl)) ⟨by rw [idxP_hit (by omega) hz g1], rfl, rfl⟩ (by repeat constructor) (by repeat constructor)
  ·intro g1
   (try simp only [decide_eq_true_eq, decide_eq_false_iff_not, Bool.not_eq_true', Bool.not_eq_false', Bool.not_eq_eq_eq_not, Bool.not_true, Bool.not_false, Int.not_lt, Int.not_le, beq_iff_eq, beq_eq_false_iff_ne, ne_eq] at g1)
   refine go_skip ?_
   refine go_blk ?_
   iterate 3 first | refine go_region rfl ?_ | refine go_pure0 Tk rfl rfl rfl ?_
   refine go_nil ?_
   refine go_i64 8 rfl (by omega) (by omega) ?_
   refine go_back (k + 1) ⟨rfl, rfl, rfl, rfl, trivial⟩ (by repeat constructor) (by repeat constructor) (⟨by omega, mem_take_next' (by omega) hz g1⟩) (by omega)
 ·intro hq1
  refine go_exit rfl ?_
  refine go_seq ?_
  refine go_region rfl ?_
  refine go_pure0 Tk rfl rfl rfl ?_
  refine go_nil ?_
  refine go_env [(4, _)] ⟨rfl, trivial⟩ ?_
  refine go_ret ⟨rfl, rfl⟩ _ _ (res1 (by rfl) (.tmp rfl)) ⟨by rw [idxP_none (by omega) hz], rfl, rfl⟩ (by repeat constructor) (by repeat constructor)

set_option maxHeartbeats 2000000 in
set_option maxRecDepth 20000 in
theorem containsTm (L : Option Addr) (lc : Nat) (l : List Tm) (g : FuncId) (p : Tm → Bool) (hso : SoTm g p) :
    Spec Try.prog 84 #[.slice L l.length lc, .func (.func g) #[] #[]] [sl tTm L lc l] [] (fun v Ps' Os' => v = .bool (l.any p) ∧ Ps' = [] ∧ Os' = []) := by
 refine spec_of (fn := Try.f84) (args := [.slice L l.length lc, .func (.func g) #[] #[]]) 9 Try.func84 rfl (by kernel_rfl) Try.ntmps84 (Nat.le_of_ble_eq_true rfl) (fun w0 hp0 hf0 => ?_)
 refine go_seq ?_
 refine go_region rfl ?_
 refine go_pure0 Tk rfl rfl rfl ?_
 refine go_nil ?_
 refine go_env [(0, _), (1, _)] ⟨rfl, rfl, trivial⟩ ?_
 iterate 4 first | refine go_seq ?_ | refine go_region rfl ?_ | refine go_pure0 Tk rfl rfl rfl ?_
 refine go_call (indexFTm L lc l g p hso) rfl rfl (by rfl) rfl (by repeat constructor) (by repeat constructor) (fun h => nomatch h) ?_
 rintro _ _ _ ⟨rfl, rfl, rfl⟩
 iterate 2 refine go_pure0 Tk rfl rfl rfl ?_
 refine go_nil ?_
 refine go_env [(4, _)] ⟨rfl, trivial⟩ ?_
 refine go_ret ⟨rfl, rfl⟩ _ _ (res1 (by rfl) (.tmp rfl)) ⟨congrArg Value.bool (idxP_any p l).symm, rfl, rfl⟩ (by repeat constructor) (by repeat constructor)

set_option maxHeartbeats 2000000 in
set_option maxRecDepth 20000 in
theorem indexFLi (L : Option Addr) (lc : Nat) (l : List Li) (g : FuncId) (p : Li → Bool) (hso : SoLi g p) :
    Spec Try.prog 86 #[.slice L l.length lc, .func (.func g) #[] #[]] [sl tLi L lc l] [] (fun v Ps' Os' => v = .int .i64 (idxP p l) ∧ Ps' = [] ∧ Os' = []) := by
 refine spec_of (fn := Try.f86) (args := [.slice L l.length lc, .func (.func g) #[] #[]]) 19 Try.func86 rfl (by kernel_rfl) Try.ntmps86 (Nat.le_of_ble_eq_true rfl) (fun w0 hp0 hf0 => ?_)
 refine go_seq ?_
 refine go_len (xs := l) (by repeat constructor) (fun l0 m0 => ?_)
 refine go_region rfl ?_
 refine go_pure0 Tk rfl rfl rfl ?_
 refine go_nil ?_
 refine go_env [(0, _), (1, _)] ⟨rfl, rfl, trivial⟩ ?_
 iterate 6 first | refine go_seq ?_ | refine go_region rfl ?_ | refine go_pure0 Tk rfl rfl rfl ?_
 refine go_nil ?_
 refine go_env [(0, _), (1, _), (7, _), (8, _)] ⟨rfl, rfl, rfl, rfl, trivial⟩ ?_
 refine go_block ?_
 refine go_loop' (X := Nat) (fun k => [(8, .int .i64 (k : Int))]) [(0, _), (1, _), (7, _)] (fun _ => []) (fun k => k ≤ l.length ∧ ∀ y ∈ l.take k, p y = false) (fun k => l.length - k) (0) ⟨rfl, rfl, rfl, rfl, trivial⟩ (by repeat constructor) ⟨by omega, by simp⟩ ?_
 intro k ⟨hk, hz⟩
 refine go_seq ?_
 refine go_region rfl ?_
 refine go_pure0 Tk rfl rfl rfl ?_
 refine go_nil ?_
 refine go_env [(0, _), (1, _), (7, _), (8, _), (9, _)] ⟨rfl, rfl, rfl, rfl, rfl, trivial⟩ ?_
 refine go_seq ?_
 refine go_condD rfl ?_ ?_
 ·intro hq1
  iterate 7 first | refine go_skip ?_ | refine go_seq ?_ | refine go_block ?_ | refine go_region rfl ?_ | refine go_pure0 Tk rfl rfl rfl ?_
  refine go_nil ?_
  refine go_env [(0, _), (1, _), (5, _), (7, _), (8, _)] ⟨rfl, rfl, rfl, rfl, rfl, trivial⟩ ?_
  refine go_seq ?_
  refine go_elem_li (xs := l) (by repeat constructor) (k) (List.getElem?_eq_getElem (by omega)) (fun b0 o0 A0 c0 hA => ?_); cases hA
  iterate 4 first | refine go_region rfl ?_ | refine go_pure0 Tk rfl rfl rfl ?_
  refine go_val0 rfl (idx_val Tk rfl rfl rfl rfl rfl (by omega)) rfl ?_
  refine go_val0 rfl (ldv Tk rfl rfl rfl) rfl ?_
  refine go_call (hso l[k] A0 c0) rfl rfl (by rfl) rfl (by repeat constructor) (by repeat constructor) (fun h => nomatch h) ?_
  rintro _ _ _ ⟨rfl, rfl, rfl⟩
  refine go_nil ?_
  refine go_env [(0, _), (1, _), (5, _), (7, _), (8, _), (16, _)] ⟨rfl, rfl, rfl, rfl, rfl, rfl, trivial⟩ ?_
  refine go_cond rfl ?_ ?_
  ·intro g1
   (try simp only [decide_eq_true_eq, decide_eq_false_iff_not, Bool.not_eq_true', Bool.not_eq_false', Bool.not_eq_eq_eq_not, Bool.not_true, Bool.not_false, Int.not_lt, Int.not_le, beq_iff_eq, beq_eq_false_iff_ne, ne_eq] at g1)
   iterate 4 first | refine go_seq ?_ | refine go_region rfl ?_ | refine go_pure0 Tk rfl rfl rfl ?_
   refine go_nil ?_
   refine go_env [(4, _)] ⟨rfl, trivial⟩ ?_
   refine go_ret ⟨rfl, rfl⟩ _ _ (res1 (by rfl) (.tmp rfl)) ⟨by rw [idxP_hit (by omega) hz g1], rfl, rfl⟩ (by repeat constructor) (by repeat constructor)
  ·intro g1
   (try simp only [decide_eq_true_eq, decide_eq_false_iff_not, Bool.not_eq_true', Bool.not_eq_false', Bool.not_eq_eq_eq_not, Bool.not_true, Bool.not_false, Int.not_lt, Int.not_le, beq_iff_eq, beq_eq_false_iff_ne, ne_eq] at g1)
   refine go_skip ?_
   refine go_blk ?_
   iterate 3 first | refine go_region rfl ?_ | refine go_pure0 Tk rfl rfl rfl ?_
   refine go_nil ?_
   refine go_i64 8 rfl (by omega) (by omega) ?_
   refine go_back (k + 1) ⟨rfl, rfl, rfl, rfl, trivial⟩ (by repeat constructor) (by repeat constructor) (⟨by omega, mem_take_next' (by omega) hz g1⟩) (by omega)
 ·intro hq1
  refine go_exit rfl ?_
  refine go_seq ?_
  refine go_region rfl ?_
  refine go_pure0 Tk rfl rfl rfl ?_
  refine go_nil ?_
  refine go_env [(4, _)] ⟨rfl, trivial⟩ ?_
  refine go_ret ⟨rfl, rfl⟩ _ _ (res1 (by rfl) (.tmp rfl)) ⟨by rw [idxP_none (by omega) hz], rfl, rfl⟩ (by repeat constructor) (by repeat constructor)

set_option maxHeartbeats 2000000 in
set_option maxRecDepth 20000 in
theorem containsLi (L : Option Addr) (lc : Nat) (l : List Li) (g : FuncId) (p : Li → Bool) (hso : SoLi g p) :
    Spec Try.prog 70 #[.slice L l.length lc, .func (.func g) #[] #[]] [sl tLi L lc l] [] (fun v Ps' Os' => v = .bool (l.any p) ∧ Ps' = [] ∧ Os' = []) := by
 refine spec_of (fn := Try.f70) (args := [.slice L l.length lc, .func (.func g) #[] #[]]) 9 Try.func70 rfl (by kernel_rfl) Try.ntmps70 (Nat.le_of_ble_eq_true rfl) (fun w0 hp0 hf0 => ?_)
 refine go_seq ?_
 refine go_region rfl ?_
 refine go_pure0 Tk rfl rfl rfl ?_
 refine go_nil ?_
 refine go_env [(0, _), (1, _)] ⟨rfl, rfl, trivial⟩ ?_
 iterate 4 first | refine go_seq ?_ | refine go_region rfl ?_ | refine go_pure0 Tk rfl rfl rfl ?_
 refine go_call (indexFLi L lc l g p hso) rfl rfl (by rfl) rfl (by repeat constructor) (by repeat constructor) (fun h => nomatch h) ?_
 rintro _ _ _ ⟨rfl, rfl, rfl⟩
 iterate 2 refine go_pure0 Tk rfl rfl rfl ?_
 refine go_nil ?_
 refine go_env [(4, _)] ⟨rfl, trivial⟩ ?_
 refine go_ret ⟨rfl, rfl⟩ _ _ (res1 (by rfl) (.tmp rfl)) ⟨congrArg Value.bool (idxP_any p l).symm, rfl, rfl⟩ (by repeat constructor) (by repeat constructor)

set_option maxHeartbeats 2000000 in
set_option maxRecDepth 20000 in
theorem mayAtom1 (t : Tm) :
    Spec Try.prog 85 #[.agg #[.bool t.v, .int .u32 t.n]] [] [] (fun v Ps' Os' => v = .bool (t.v && decide (16 ≤ t.n)) ∧ Ps' = [] ∧ Os' = []) := by
 refine spec_of (fn := Try.f85) (args := [.agg #[.bool t.v, .int .u32 t.n]]) 10 Try.func85 rfl (by kernel_rfl) Try.ntmps85 (Nat.le_of_ble_eq_true rfl) (fun w0 hp0 hf0 => ?_)
 refine go_seq ?_
 refine go_region rfl ?_
 refine go_box Tk rfl rfl rfl rfl (by rfl) rfl rfl (fun h => nomatch h) ?_
 intro b1
 refine go_pure0 Tk rfl rfl rfl ?_
 refine go_nil ?_
 refine go_env [(1, _)] ⟨rfl, trivial⟩ ?_
 iterate 5 first | refine go_seq ?_ | refine go_region rfl ?_ | refine go_pure0 Tk rfl rfl rfl ?_ | refine go_val0 rfl (ldv Tk rfl rfl rfl) rfl ?_
 refine go_known 5 rfl ?_ ?_
 ·intro g1
  (try simp only [decide_eq_true_eq, decide_eq_false_iff_not, Bool.not_eq_true', Bool.not_eq_false', Bool.not_eq_eq_eq_not, Bool.not_true, Bool.not_false, Int.not_lt, Int.not_le, beq_iff_eq, beq_eq_false_iff_ne, ne_eq] at g1)
  iterate 5 first | refine go_pure0 Tk rfl rfl rfl ?_ | refine go_val0 rfl (ldv Tk rfl rfl rfl) rfl ?_
  refine go_nil ?_
  refine go_env [(2, _)] ⟨rfl, trivial⟩ ?_
  refine go_ret ⟨rfl, rfl⟩ _ _ (res1 (by rfl) (.tmp rfl)) ⟨by rw [g1]; rfl, rfl, rfl⟩ (by repeat constructor) (by repeat constructor)
 ·intro g1
  (try simp only [decide_eq_true_eq, decide_eq_false_iff_not, Bool.not_eq_true', Bool.not_eq_false', Bool.not_eq_eq_eq_not, Bool.not_true, Bool.not_false, Int.not_lt, Int.not_le, beq_iff_eq, beq_eq_false_iff_ne, ne_eq] at g1)
  iterate 5 first | refine go_skip0 rfl rfl ?_ | refine go_pure0 Tk rfl rfl rfl ?_
  refine go_nil ?_
  refine go_env [(2, _)] ⟨rfl, trivial⟩ ?_
  refine go_ret ⟨rfl, rfl⟩ _ _ (res1 (by rfl) (.tmp rfl)) ⟨by rw [g1]; rfl, rfl, rfl⟩ (by repeat constructor) (by repeat constructor)

set_option maxHeartbeats 2000000 in
set_option maxRecDepth 20000 in
theorem ground1 (t : Tm) :
    Spec Try.prog 91 #[.agg #[.bool t.v, .int .u32 t.n]] [] [] (fun v Ps' Os' => v = .bool t.v ∧ Ps' = [] ∧ Os' = []) := by
 refine spec_of (fn := Try.f91) (args := [.agg #[.bool t.v, .int .u32 t.n]]) 5 Try.func91 rfl (by kernel_rfl) Try.ntmps91 (Nat.le_of_ble_eq_true rfl) (fun w0 hp0 hf0 => ?_)
 refine go_seq ?_
 refine go_region rfl ?_
 refine go_box Tk rfl rfl rfl rfl (by rfl) rfl rfl (fun h => nomatch h) ?_
 intro b1
 refine go_pure0 Tk rfl rfl rfl ?_
 refine go_nil ?_
 refine go_env [(1, _)] ⟨rfl, trivial⟩ ?_
 iterate 5 first | refine go_seq ?_ | refine go_region rfl ?_ | refine go_pure0 Tk rfl rfl rfl ?_ | refine go_val0 rfl (ldv Tk rfl rfl rfl) rfl ?_
 refine go_nil ?_
 refine go_env [(2, _)] ⟨rfl, trivial⟩ ?_
 refine go_ret ⟨rfl, rfl⟩ _ _ (res1 (by rfl) (.tmp rfl)) ⟨rfl, rfl, rfl⟩ (by repeat constructor) (by repeat constructor)

set_option maxHeartbeats 2000000 in
set_option maxRecDepth 20000 in
theorem mayAtom (a : Am) (AA : Option Addr) (ac : Nat) :
    Spec Try.prog 69 #[.agg #[.int .u32 a.p, .slice AA a.a.length ac]] [sl tTm AA ac a.a] [] (fun v Ps' Os' => v = .bool (mayA a) ∧ Ps' = [] ∧ Os' = []) := by
 refine spec_of (fn := Try.f69) (args := [.agg #[.int .u32 a.p, .slice AA a.a.length ac]]) 13 Try.func69 rfl (by kernel_rfl) Try.ntmps69 (Nat.le_of_ble_eq_true rfl) (fun w0 hp0 hf0 => ?_)
 refine go_seq ?_
 refine go_region rfl ?_
 refine go_box Tk rfl rfl rfl rfl (by rfl) rfl rfl (fun h => nomatch h) ?_
 intro b1
 refine go_pure0 Tk rfl rfl rfl ?_
 refine go_nil ?_
 refine go_env [(1, _)] ⟨rfl, trivial⟩ ?_
 refine go_seq ?_
 refine go_len (xs := a.a) (by repeat constructor) (fun l0 m0 => ?_)
 iterate 6 first | refine go_region rfl ?_ | refine go_pure0 Tk rfl rfl rfl ?_ | refine go_val0 rfl (ldv Tk rfl rfl rfl) rfl ?_
 refine go_known 7 rfl ?_ ?_
 ·intro g1
  (try simp only [decide_eq_true_eq, decide_eq_false_iff_not, Bool.not_eq_true', Bool.not_eq_false', Bool.not_eq_eq_eq_not, Bool.not_true, Bool.not_false, Int.not_lt, Int.not_le, beq_iff_eq, beq_eq_false_iff_ne, ne_eq] at g1)
  refine go_pure0 Tk rfl rfl rfl ?_
  refine go_val0 rfl (ldv Tk rfl rfl rfl) rfl ?_
  refine go_call (containsTm AA ac a.a 85 _ (fun t => mayAtom1 t)) rfl rfl (by rfl) rfl (by repeat constructor) (by repeat constructor) (fun h => nomatch h) ?_
  rintro _ _ _ ⟨rfl, rfl, rfl⟩
  iterate 3 refine go_pure0 Tk rfl rfl rfl ?_
  refine go_nil ?_
  refine go_env [(2, _)] ⟨rfl, trivial⟩ ?_
  refine go_ret ⟨rfl, rfl⟩ _ _ (res1 (by rfl) (.tmp rfl)) ⟨by unfold mayA; rw [decide_eq_true (by omega)]; rfl, rfl, rfl⟩ (by repeat constructor) (by repeat constructor)
 ·intro g1
  (try simp only [decide_eq_true_eq, decide_eq_false_iff_not, Bool.not_eq_true', Bool.not_eq_false', Bool.not_eq_eq_eq_not, Bool.not_true, Bool.not_false, Int.not_lt, Int.not_le, beq_iff_eq, beq_eq_false_iff_ne, ne_eq] at g1)
  iterate 6 first | refine go_skip0 rfl rfl ?_ | refine go_pure0 Tk rfl rfl rfl ?_
  refine go_nil ?_
  refine go_env [(2, _)] ⟨rfl, trivial⟩ ?_
  refine go_ret ⟨rfl, rfl⟩ _ _ (res1 (by rfl) (.tmp rfl)) ⟨by unfold mayA; rw [decide_eq_false (by omega)]; rfl, rfl, rfl⟩ (by repeat constructor) (by repeat constructor)

set_option maxHeartbeats 2000000 in
set_option maxRecDepth 20000 in
theorem may1 (x : Li) (A : Option Addr) (c : Nat) :
    Spec Try.prog 71 #[.agg #[.bool x.no, .int .u32 x.a.p, .slice A x.a.a.length c]] [sl tTm A c x.a.a] [] (fun v Ps' Os' => v = .bool (!mayA x.a) ∧ Ps' = [] ∧ Os' = []) := by
 refine spec_of (fn := Try.f71) (args := [.agg #[.bool x.no, .int .u32 x.a.p, .slice A x.a.a.length c]]) 7 Try.func71 rfl (by kernel_rfl) Try.ntmps71 (Nat.le_of_ble_eq_true rfl) (fun w0 hp0 hf0 => ?_)
 refine go_seq ?_
 refine go_region rfl ?_
 refine go_box Tk rfl rfl rfl rfl (by rfl) rfl rfl (fun h => nomatch h) ?_
 intro b1
 refine go_pure0 Tk rfl rfl rfl ?_
 refine go_nil ?_
 refine go_env [(1, _)] ⟨rfl, trivial⟩ ?_
 refine go_seq ?_
 refine go_region rfl ?_
 refine go_pure0 Tk rfl rfl rfl ?_
 refine go_val0 rfl (ldv Tk rfl rfl rfl) rfl ?_
 refine go_call (mayAtom x.a A c) rfl rfl (by rfl) rfl (by repeat constructor) (by repeat constructor) (fun h => nomatch h) ?_
 rintro _ _ _ ⟨rfl, rfl, rfl⟩
 iterate 2 refine go_pure0 Tk rfl rfl rfl ?_
 refine go_nil ?_
 refine go_env [(2, _)] ⟨rfl, trivial⟩ ?_
 refine go_ret ⟨rfl, rfl⟩ _ _ (res1 (by rfl) (.tmp rfl)) ⟨rfl, rfl, rfl⟩ (by repeat constructor) (by repeat constructor)

set_option maxHeartbeats 2000000 in
set_option maxRecDepth 20000 in
theorem may (c : Cl) (CA : Option Addr) (cc : Nat) (CB : Option Addr) (cd : Nat) :
    Spec Try.prog 57 #[.agg #[.int .u32 c.h.p, .slice CA c.h.a.length cc, .slice CB c.b.length cd]] [sl tTm CA cc c.h.a, sl tLi CB cd c.b] [] (fun v Ps' Os' => v = .bool (mayC c) ∧ Ps' = [] ∧ Os' = []) := by
 refine spec_of (fn := Try.f57) (args := [.agg #[.int .u32 c.h.p, .slice CA c.h.a.length cc, .slice CB c.b.length cd]]) 18 Try.func57 rfl (by kernel_rfl) Try.ntmps57 (Nat.le_of_ble_eq_true rfl) (fun w0 hp0 hf0 => ?_)
 refine go_seq ?_
 refine go_region rfl ?_
 refine go_box Tk rfl rfl rfl rfl (by rfl) rfl rfl (fun h => nomatch h) ?_
 intro b1
 refine go_pure0 Tk rfl rfl rfl ?_
 refine go_nil ?_
 refine go_env [(1, _)] ⟨rfl, trivial⟩ ?_
 refine go_seq ?_
 refine go_len (xs := c.b) (by repeat constructor) (fun l0 m0 => ?_)
 iterate 6 first | refine go_region rfl ?_ | refine go_pure0 Tk rfl rfl rfl ?_ | refine go_val0 rfl (ldv Tk rfl rfl rfl) rfl ?_
 refine go_known 7 rfl ?_ ?_
 ·intro g1
  (try simp only [decide_eq_true_eq, decide_eq_false_iff_not, Bool.not_eq_true', Bool.not_eq_false', Bool.not_eq_eq_eq_not, Bool.not_true, Bool.not_false, Int.not_lt, Int.not_le, beq_iff_eq, beq_eq_false_iff_ne, ne_eq] at g1)
  refine go_pure0 Tk rfl rfl rfl ?_
  refine go_val0 rfl (ldv Tk rfl rfl rfl) rfl ?_
  refine go_call (mayAtom c.h CA cc) rfl rfl (by rfl) rfl (by repeat constructor) (by repeat constructor) (fun h => nomatch h) ?_
  rintro _ _ _ ⟨rfl, rfl, rfl⟩
  iterate 2 refine go_pure0 Tk rfl rfl rfl ?_
  refine go_known 12 rfl ?_ ?_
  ·intro g2
   (try simp only [decide_eq_true_eq, decide_eq_false_iff_not, Bool.not_eq_true', Bool.not_eq_false', Bool.not_eq_eq_eq_not, Bool.not_true, Bool.not_false, Int.not_lt, Int.not_le, beq_iff_eq, beq_eq_false_iff_ne, ne_eq] at g2)
   refine go_pure0 Tk rfl rfl rfl ?_
   refine go_val0 rfl (ldv Tk rfl rfl rfl) rfl ?_
   refine go_call (containsLi CB cd c.b 71 _ (fun x A c => may1 x A c)) rfl rfl (by rfl) rfl (by repeat constructor) (by repeat constructor) (fun h => nomatch h) ?_
   rintro _ _ _ ⟨rfl, rfl, rfl⟩
   iterate 3 refine go_pure0 Tk rfl rfl rfl ?_
   refine go_nil ?_
   refine go_env [(2, _)] ⟨rfl, trivial⟩ ?_
   refine go_ret ⟨rfl, rfl⟩ _ _ (res1 (by rfl) (.tmp rfl)) ⟨by unfold mayC; rw [decide_eq_true (by omega), g2]; rfl, rfl, rfl⟩ (by repeat constructor) (by repeat constructor)
  ·intro g2
   (try simp only [decide_eq_true_eq, decide_eq_false_iff_not, Bool.not_eq_true', Bool.not_eq_false', Bool.not_eq_eq_eq_not, Bool.not_true, Bool.not_false, Int.not_lt, Int.not_le, beq_iff_eq, beq_eq_false_iff_ne, ne_eq] at g2)
   iterate 6 first | refine go_skip0 rfl rfl ?_ | refine go_pure0 Tk rfl rfl rfl ?_
   refine go_nil ?_
   refine go_env [(2, _)] ⟨rfl, trivial⟩ ?_
   refine go_ret ⟨rfl, rfl⟩ _ _ (res1 (by rfl) (.tmp rfl)) ⟨by unfold mayC; rw [decide_eq_true (by omega), g2]; rfl, rfl, rfl⟩ (by repeat constructor) (by repeat constructor)
 ·intro g1
  (try simp only [decide_eq_true_eq, decide_eq_false_iff_not, Bool.not_eq_true', Bool.not_eq_false', Bool.not_eq_eq_eq_not, Bool.not_true, Bool.not_false, Int.not_lt, Int.not_le, beq_iff_eq, beq_eq_false_iff_ne, ne_eq] at g1)
  iterate 11 first | refine go_skip0 rfl rfl ?_ | refine go_pure0 Tk rfl rfl rfl ?_
  refine go_nil ?_
  refine go_env [(2, _)] ⟨rfl, trivial⟩ ?_
  refine go_ret ⟨rfl, rfl⟩ _ _ (res1 (by rfl) (.tmp rfl)) ⟨by unfold mayC; rw [decide_eq_false (by omega)]; rfl, rfl, rfl⟩ (by repeat constructor) (by repeat constructor)

set_option maxHeartbeats 2000000 in
set_option maxRecDepth 20000 in
theorem groundA (a : Am) (AA : Option Addr) (ac : Nat) :
    Spec Try.prog 78 #[.agg #[.int .u32 a.p, .slice AA a.a.length ac]] [sl tTm AA ac a.a] [] (fun v Ps' Os' => v = .bool (ground a) ∧ Ps' = [] ∧ Os' = []) := by
 refine spec_of (fn := Try.f78) (args := [.agg #[.int .u32 a.p, .slice AA a.a.length ac]]) 7 Try.func78 rfl (by kernel_rfl) Try.ntmps78 (Nat.le_of_ble_eq_true rfl) (fun w0 hp0 hf0 => ?_)
 refine go_seq ?_
 refine go_region rfl ?_
 refine go_box Tk rfl rfl rfl rfl (by rfl) rfl rfl (fun h => nomatch h) ?_
 intro b1
 refine go_pure0 Tk rfl rfl rfl ?_
 refine go_nil ?_
 refine go_env [(1, _)] ⟨rfl, trivial⟩ ?_
 refine go_seq ?_
 refine go_region rfl ?_
 refine go_pure0 Tk rfl rfl rfl ?_
 refine go_val0 rfl (ldv Tk rfl rfl rfl) rfl ?_
 refine go_call (containsTm AA ac a.a 91 _ (fun t => ground1 t)) rfl rfl (by rfl) rfl (by repeat constructor) (by repeat constructor) (fun h => nomatch h) ?_
 rintro _ _ _ ⟨rfl, rfl, rfl⟩
 iterate 2 refine go_pure0 Tk rfl rfl rfl ?_
 refine go_nil ?_
 refine go_env [(2, _)] ⟨rfl, trivial⟩ ?_
 refine go_ret ⟨rfl, rfl⟩ _ _ (res1 (by rfl) (.tmp rfl)) ⟨rfl, rfl, rfl⟩ (by repeat constructor) (by repeat constructor)

end Go.Proofs.Ytkhddfknpegpmaa.SL

/- Contracts of functions of the program (Safeb): what each call comes to, for the laws' proofs. -/
set_option linter.unusedVariables false
set_option linter.unusedSimpArgs false
namespace Go.Proofs.Ytkhddfknpegpmaa.SL
open Go 

set_option maxHeartbeats 2000000 in
set_option maxRecDepth 20000 in
theorem lessU (x y : Int) :
    Spec Try.prog 104 #[.int .u32 x, .int .u32 y] [] [] (fun v Ps' Os' => v = .bool (decide (x < y)) ∧ Ps' = [] ∧ Os' = []) := by
 refine spec_of (fn := Try.f104) (args := [.int .u32 x, .int .u32 y]) 17 Try.func104 rfl (by kernel_rfl) Try.ntmps104 (Nat.le_of_ble_eq_true rfl) (fun w0 hp0 hf0 => ?_)
 refine go_seq ?_
 refine go_region rfl ?_
 refine go_pure0 Tk rfl rfl rfl ?_
 refine go_nil ?_
 refine go_env [(0, _), (1, _)] ⟨rfl, rfl, trivial⟩ ?_
 refine go_seq ?_
 refine go_region rfl ?_
 refine go_pure0 Tk rfl rfl rfl ?_
 refine go_call (isNaN_u32 _) rfl rfl (by rfl) rfl (by repeat constructor) (by repeat constructor) (fun h => nomatch h) ?_
 rintro _ _ _ ⟨rfl, rfl, rfl⟩
 iterate 11 first | refine go_pure0 Tk rfl rfl rfl ?_ | refine go_skip0 rfl rfl ?_
 refine go_nil ?_
 refine go_env [(4, _)] ⟨rfl, trivial⟩ ?_
 refine go_ret ⟨rfl, rfl⟩ _ _ (res1 (by rfl) (.tmp rfl)) ⟨rfl, rfl, rfl⟩ (by repeat constructor) (by repeat constructor)

set_option maxHeartbeats 2000000 in
set_option maxRecDepth 20000 in
theorem isortU (A : Option Addr) (c : Nat) (l : List Int) (hn : l.length ≤ 12) :
    Spec Try.prog 98 #[.slice A l.length c, .int .i64 0, .int .i64 (l.length : Int)] [] [ol tU 22 A c l] (fun v Ps' Os' => ∃ m, m.Perm l ∧ v = .tuple #[] ∧ Ps' = [] ∧ Os' = [ol tU 22 A c m]) := by
 refine spec_of (fn := Try.f98) (args := [.slice A l.length c, .int .i64 0, .int .i64 (l.length : Int)]) 49 Try.func98 rfl (by kernel_rfl) Try.ntmps98 (Nat.le_of_ble_eq_true rfl) (fun w0 hp0 hf0 => ?_)
 iterate 5 first | refine go_seq ?_ | refine go_region rfl ?_ | refine go_pure0 Tk rfl rfl rfl ?_
 refine go_re 6 (.int .i64 ((1 : Nat) : Int)) rfl ?_
 refine go_nil ?_
 refine go_env [(0, _), (1, _), (2, _), (6, _)] ⟨rfl, rfl, rfl, rfl, trivial⟩ ?_
 refine go_block ?_
 refine go_loop' (X := Nat × List Int) (fun x => [(6, .int .i64 (x.1 : Int))]) [(0, _), (1, _), (2, _)] (fun x => [ol tU 22 A c x.2]) (fun x => x.1 ≤ l.length + 1 ∧ x.2.Perm l) (fun x => l.length + 1 - x.1) ((1, l)) ⟨rfl, rfl, rfl, rfl, trivial⟩ (by repeat constructor) ⟨by omega, .refl _⟩ ?_
 intro ⟨i, xs⟩ ⟨hi, hp⟩
 simp only at hi hp ⊢
 have hxl := hp.length_eq
 iterate 6 first | refine go_seq ?_ | refine go_region rfl ?_ | refine go_pure0 Tk rfl rfl rfl ?_
 refine go_nil ?_
 refine go_env [(0, _), (1, _), (2, _), (6, _), (12, _)] ⟨rfl, rfl, rfl, rfl, rfl, trivial⟩ ?_
 refine go_condD rfl ?_ ?_
 ·intro hq1
  iterate 4 first | refine go_skip ?_ | refine go_seq ?_ | refine go_block ?_
  refine go_ol_addr (xs := xs) (by repeat constructor) (by omega) (fun bL hL => ?_); subst hL
  iterate 3 first | refine go_region rfl ?_ | refine go_pure0 Tk rfl rfl rfl ?_
  refine go_nil ?_
  refine go_env [(0, _), (1, _), (2, _), (6, _), (7, _)] ⟨rfl, rfl, rfl, rfl, rfl, trivial⟩ ?_
  refine go_block ?_
  refine go_loop' (X := Nat × List Int) (fun x => [(7, .int .i64 (x.1 : Int))]) [(0, _), (1, _), (2, _), (6, _)] (fun x => [ol tU 22 (some ⟨bL, 0, none⟩) c x.2]) (fun x => x.1 ≤ i ∧ x.2.Perm l) (fun x => x.1) ((i, xs)) ⟨rfl, rfl, rfl, rfl, rfl, trivial⟩ (by repeat constructor) ⟨Nat.le_refl _, hp⟩ ?_
  intro ⟨j, ys⟩ ⟨hj, hq⟩
  simp only at hj hq ⊢
  have hyl := hq.length_eq
  iterate 2 refine go_seq ?_
  refine go_draw'  [7, 12] (SL.pre [(1, 0), (1, 1), (1, 2), (1, 3), (1, 4), (1, 5), (1, 6), (1, 8), (1, 9), (1, 10), (1, 11), (2, 7), (2, 12), (0, 13), (1, 14)] .nil) mixed rfl (by kernel_rfl) ?_
  iterate 4 refine go_pure1 Tk rfl rfl rfl ?_
  refine go_known 19 rfl ?_ ?_
  ·intro g1
   (try simp only [decide_eq_true_eq, decide_eq_false_iff_not, Bool.not_eq_true', Bool.not_eq_false', Bool.not_eq_eq_eq_not, Bool.not_true, Bool.not_false, Int.not_lt, Int.not_le, beq_iff_eq, beq_eq_false_iff_ne, ne_eq] at g1)
   iterate 2 refine go_pure1 Tk rfl rfl rfl ?_
   refine go_val1 rfl (idx_val Tk rfl rfl rfl rfl rfl (by omega)) rfl ?_
   iterate 3 refine go_pure1 Tk rfl rfl rfl ?_
   refine go_i64 26 rfl (by omega) (by omega) ?_
   refine go_re 26 (.int .i64 ((j - 1 : Nat) : Int)) (by show some (Value.int _ _) = _; rw [show ((j - 1 : Nat) : Int) = (j : Int) - 1 by omega]) ?_
   refine go_val1 rfl (idx_val Tk rfl rfl rfl rfl rfl (by omega)) rfl ?_
   refine go_val2a rfl (load_val (cs := [.int .u32 ys[j]]) Tk rfl rfl rfl (at_ol (fun y : Int => [.int .u32 y]) fc_int 0 (xs := ys) (by repeat constructor) (List.getElem?_eq_getElem (by omega)) rfl) rfl) rfl ?_
   refine go_val2a rfl (load_val (cs := [.int .u32 ys[j - 1]]) Tk rfl rfl rfl (at_ol (fun y : Int => [.int .u32 y]) fc_int 0 (xs := ys) (by repeat constructor) (List.getElem?_eq_getElem (by omega)) rfl) rfl) rfl ?_
   refine go_call (lessU _ _) rfl rfl (by rfl) rfl (by repeat constructor) (by repeat constructor) (fun h => nomatch h) ?_
   rintro _ _ _ ⟨rfl, rfl, rfl⟩
   refine go_pure1 Tk rfl rfl rfl ?_
   refine go_nil ?_
   refine go_env [(0, _), (1, _), (2, _), (6, _), (7, _), (20, _), (21, _), (22, _), (23, _), (24, _), (25, _), (26, _), (27, _), (28, _), (29, _), (30, _)] ⟨rfl, rfl, rfl, rfl, rfl, rfl, rfl, rfl, rfl, rfl, rfl, rfl, rfl, rfl, rfl, rfl, trivial⟩ ?_
   refine go_cond rfl ?_ ?_
   ·intro g2
    (try simp only [decide_eq_true_eq, decide_eq_false_iff_not, Bool.not_eq_true', Bool.not_eq_false', Bool.not_eq_eq_eq_not, Bool.not_true, Bool.not_false, Int.not_lt, Int.not_le, beq_iff_eq, beq_eq_false_iff_ne, ne_eq] at g2)
    refine go_skip ?_
    refine go_seq ?_
    refine go_block ?_
    refine go_draw'  [9, 13] (SL.pre [(1, 0), (1, 1), (1, 2), (1, 3), (1, 4), (1, 5), (1, 6), (1, 7), (1, 8), (1, 10), (1, 11), (1, 12), (2, 9), (2, 13), (1, 14), (0, 15), (1, 16), (0, 17)] .nil) mixed rfl (by kernel_rfl) ?_
    iterate 5 refine go_pure1 Tk rfl rfl rfl ?_
    refine go_i64 37 rfl (by omega) (by omega) ?_
    refine go_re 37 (.int .i64 ((j - 1 : Nat) : Int)) (by show some (Value.int _ _) = _; rw [show ((j - 1 : Nat) : Int) = (j : Int) - 1 by omega]) ?_
    iterate 3 refine go_pure1 Tk rfl rfl rfl ?_
    refine go_i64 40 rfl (by omega) (by omega) ?_
    refine go_re 40 (.int .i64 ((j - 1 : Nat) : Int)) (by show some (Value.int _ _) = _; rw [show ((j - 1 : Nat) : Int) = (j : Int) - 1 by omega]) ?_
    refine go_val1 rfl (idx_val Tk rfl rfl rfl rfl rfl (by omega)) rfl ?_
    iterate 2 refine go_pure1 Tk rfl rfl rfl ?_
    refine go_val1 rfl (idx_val Tk rfl rfl rfl rfl rfl (by omega)) rfl ?_
    refine go_val2a rfl (load_val (cs := [.int .u32 ys[j - 1]]) Tk rfl rfl rfl (at_ol (fun y : Int => [.int .u32 y]) fc_int 0 (xs := ys) (by repeat constructor) (List.getElem?_eq_getElem (by omega)) rfl) rfl) rfl ?_
    refine go_val2a rfl (load_val (cs := [.int .u32 ys[j]]) Tk rfl rfl rfl (at_ol (fun y : Int => [.int .u32 y]) fc_int 0 (xs := ys) (by repeat constructor) (List.getElem?_eq_getElem (by omega)) rfl) rfl) rfl ?_
    refine go_val1 rfl (idx_val Tk rfl rfl rfl rfl rfl (by omega)) rfl ?_
    refine go_store_el (T := tU) (xs := ys) (j := j) Tk (ys[j - 1]) rfl rfl rfl rfl rfl rfl (by repeat constructor) (by omega) rfl rfl ent_int (fun h => nomatch (Eq.symm h).trans (show _ = false by kernel_rfl)) ?_
    refine go_val1 rfl (idx_val Tk rfl rfl rfl rfl rfl (by omega)) rfl ?_
    refine go_store_el (T := tU) (xs := ys.set j ys[j - 1]) (j := j - 1) Tk (ys[j]) rfl rfl rfl rfl rfl rfl (by repeat constructor) (by rw [List.length_set]; omega) rfl rfl ent_int (fun h => nomatch (Eq.symm h).trans (show _ = false by kernel_rfl)) ?_
    refine go_nil ?_
    refine go_env [(0, _), (1, _), (2, _), (6, _), (7, _), (20, _), (21, _), (22, _), (23, _), (24, _), (25, _), (26, _), (27, _), (28, _), (29, _)] ⟨rfl, rfl, rfl, rfl, rfl, rfl, rfl, rfl, rfl, rfl, rfl, rfl, rfl, rfl, rfl, trivial⟩ ?_
    refine go_blk ?_
    iterate 4 first | refine go_region rfl ?_ | refine go_pure0 Tk rfl rfl rfl ?_
    refine go_i64 7 rfl (by omega) (by omega) ?_
    refine go_re 7 (.int .i64 ((j - 1 : Nat) : Int)) (by show some (Value.int _ _) = _; rw [show ((j - 1 : Nat) : Int) = (j : Int) - 1 by omega]) ?_
    refine go_nil ?_
    refine go_back (j - 1, (ys.set j ys[j - 1]).set (j - 1) ys[j]) ⟨rfl, rfl, rfl, rfl, rfl, trivial⟩ (by repeat constructor) (by repeat constructor) ⟨by show j - 1 ≤ i; omega, (List.set_set_perm _ _).trans hq⟩ (by show j - 1 < j; omega)
   ·intro g2
    (try simp only [decide_eq_true_eq, decide_eq_false_iff_not, Bool.not_eq_true', Bool.not_eq_false', Bool.not_eq_eq_eq_not, Bool.not_true, Bool.not_false, Int.not_lt, Int.not_le, beq_iff_eq, beq_eq_false_iff_ne, ne_eq] at g2)
    refine go_exit rfl ?_
    refine go_blk ?_
    iterate 4 first | refine go_region rfl ?_ | refine go_pure0 Tk rfl rfl rfl ?_
    refine go_nil ?_
    refine go_i64 6 rfl (by omega) (by omega) ?_
    refine go_back (i + 1, ys) ⟨rfl, rfl, rfl, rfl, trivial⟩ (by repeat constructor) (by repeat constructor) ⟨by show i + 1 ≤ _; omega, hq⟩ (by show l.length + 1 - (i + 1) < l.length + 1 - i; omega)
  ·intro g1
   (try simp only [decide_eq_true_eq, decide_eq_false_iff_not, Bool.not_eq_true', Bool.not_eq_false', Bool.not_eq_eq_eq_not, Bool.not_true, Bool.not_false, Int.not_lt, Int.not_le, beq_iff_eq, beq_eq_false_iff_ne, ne_eq] at g1)
   iterate 7 refine go_skip1 rfl rfl ?_
   refine go_skip2 rfl (by repeat constructor) (by repeat constructor) rfl ?_
   refine go_skip2 rfl (by repeat constructor) (by repeat constructor) rfl ?_
   refine go_skip0 rfl rfl ?_
   refine go_pure1 Tk rfl rfl rfl ?_
   refine go_nil ?_
   refine go_env [(0, _), (1, _), (2, _), (6, _), (7, _), (20, _), (21, _), (22, _), (23, _), (24, _), (25, _), (26, _), (27, _), (28, _), (29, _), (30, _)] ⟨rfl, rfl, rfl, rfl, rfl, rfl, rfl, rfl, rfl, rfl, rfl, rfl, rfl, rfl, rfl, rfl, trivial⟩ ?_
   refine go_cond_f rfl ?_
   refine go_exit rfl ?_
   refine go_blk ?_
   iterate 4 first | refine go_region rfl ?_ | refine go_pure0 Tk rfl rfl rfl ?_
   refine go_nil ?_
   refine go_i64 6 rfl (by omega) (by omega) ?_
   refine go_back (i + 1, ys) ⟨rfl, rfl, rfl, rfl, trivial⟩ (by repeat constructor) (by repeat constructor) ⟨by show i + 1 ≤ _; omega, hq⟩ (by show l.length + 1 - (i + 1) < l.length + 1 - i; omega)
 ·intro hq1
  refine go_exit rfl ?_
  refine go_end ⟨rfl, rfl⟩ _ _ (res0 (by rfl)) ⟨xs, hp, rfl, rfl, rfl⟩ (by repeat constructor) (by repeat constructor)

end Go.Proofs.Ytkhddfknpegpmaa.SL

/- Contracts of functions of the program (Safec): what each call comes to, for the laws' proofs. -/
set_option linter.unusedVariables false
set_option linter.unusedSimpArgs false
namespace Go.Proofs.Ytkhddfknpegpmaa.SL
open Go 

set_option maxHeartbeats 2000000 in
set_option maxRecDepth 20000 in
theorem pdqU (A : Option Addr) (c : Nat) (l : List Int) (r : Int) (hn : l.length ≤ 12) :
    Spec Try.prog 96 #[.slice A l.length c, .int .i64 0, .int .i64 (l.length : Int), .int .i64 r] [] [ol tU 22 A c l] (fun v Ps' Os' => ∃ m, m.Perm l ∧ v = .tuple #[] ∧ Ps' = [] ∧ Os' = [ol tU 22 A c m]) := by
 refine spec_of (fn := Try.f96) (args := [.slice A l.length c, .int .i64 0, .int .i64 (l.length : Int), .int .i64 r]) 134 Try.func96 rfl (by kernel_rfl) Try.ntmps96 (Nat.le_of_ble_eq_true rfl) (fun w0 hp0 hf0 => ?_)
 refine go_seq ?_
 refine go_region rfl ?_
 refine go_pure0 Tk rfl rfl rfl ?_
 refine go_nil ?_
 refine go_env [(0, _), (1, _), (2, _), (3, _), (8, _)] ⟨rfl, rfl, rfl, rfl, rfl, trivial⟩ ?_
 refine go_seq ?_
 refine go_region rfl ?_
 refine go_pure0 Tk rfl rfl rfl ?_
 refine go_nil ?_
 refine go_env [(0, _), (1, _), (2, _), (3, _), (8, _), (9, _)] ⟨rfl, rfl, rfl, rfl, rfl, rfl, trivial⟩ ?_
 refine go_block ?_
 refine go_loop' (X := Unit) (fun _ => [(0, .slice A l.length c), (1, .int .i64 0), (2, .int .i64 (l.length : Int)), (3, .int .i64 r), (8, .bool true), (9, .bool true)]) [] (fun _ => []) (fun _ => True) (fun _ => 0) (()) ⟨rfl, rfl, rfl, rfl, rfl, rfl, trivial⟩ (by repeat constructor) trivial ?_
 intro ⟨⟩ hJ
 iterate 6 first | refine go_block ?_ | refine go_seq ?_ | refine go_region rfl ?_ | refine go_pure0 Tk rfl rfl rfl ?_
 refine go_i64 21 rfl (by omega) (by omega) ?_
 refine go_pure0 Tk rfl rfl rfl ?_
 refine go_nil ?_
 refine go_env [(0, _), (1, _), (2, _), (3, _), (8, _), (9, _), (10, _)] ⟨rfl, rfl, rfl, rfl, rfl, rfl, rfl, trivial⟩ ?_
 iterate 5 first | refine go_seq ?_ | refine go_region rfl ?_ | refine go_pure0 Tk rfl rfl rfl ?_
 refine go_re 23 (.bool true) (by show some (Value.bool _) = _; rw [decide_eq_true (by omega)]) ?_
 refine go_nil ?_
 refine go_env [(0, _), (1, _), (2, _), (3, _), (8, _), (9, _), (10, _), (23, _)] ⟨rfl, rfl, rfl, rfl, rfl, rfl, rfl, rfl, trivial⟩ ?_
 refine go_cond_t rfl ?_
 iterate 5 first | refine go_seq ?_ | refine go_region rfl ?_ | refine go_pure0 Tk rfl rfl rfl ?_
 refine go_call (isortU A c l hn) rfl rfl (by rfl) rfl (by repeat constructor) (by repeat constructor) (fun h => nomatch h) ?_
 rintro _ _ _ ⟨m, hm, rfl, rfl, rfl⟩
 refine go_nil ?_
 refine go_env [] trivial ?_
 refine go_ret ⟨rfl, rfl⟩ _ _ (res0 (by rfl)) ⟨m, hm, rfl, rfl, rfl⟩ (by repeat constructor) (by repeat constructor)

open Go.Shelf Go.RowKit Go.Lib in
def Try.lays125_ren : Go.Shelf.Ren := ⟨fun | 125 => 97 | 128 => 107 | 129 => 108 | n => n, fun | 46 => 121 | 3 => 3 | 51 => 22 | 53 => 149 | 4 => 4 | 5 => 5 | 9 => 9 | n => n, fun | n => n⟩
open Go.Shelf Go.RowKit Go.Lib in
theorem Try.lays125 : Go.Proofs.Lays.n125 Try.prog Try.lays125_ren := {
  mixed := by kernel_rfl
  f125 := Try.func97.trans (congrArg some (by kernel_rfl))
  f128 := Try.func107.trans (congrArg some (by kernel_rfl))
  f129 := Try.func108.trans (congrArg some (by kernel_rfl))
  t3 := Try.underlying3
  a3 := Try.isAgg3
  z3 := Try.sizeOf3
  v3 := Try.zeroValue3
  t4 := Try.underlying4
  a4 := Try.isAgg4
  z4 := Try.sizeOf4
  v4 := Try.zeroValue4
  t5 := Try.underlying5
  a5 := Try.isAgg5
  z5 := Try.sizeOf5
  v5 := Try.zeroValue5
  t9 := Try.underlying9
  a9 := Try.isAgg9
  z9 := Try.sizeOf9
  v9 := Try.zeroValue9
  t46 := Try.underlying121
  a46 := Try.isAgg121
  z46 := Try.sizeOf121
  v46 := Try.zeroValue121
  t51 := Try.underlying22
  a51 := Try.isAgg22
  z51 := Try.sizeOf22
  v51 := Try.zeroValue22
  t53 := Try.underlying149
  a53 := Try.isAgg149
  z53 := Try.sizeOf149
  v53 := Try.zeroValue149 }

theorem bitsLen (x : Int) (h0 : 0 ≤ x) (h1 : x ≤ 18446744073709551615) : Spec Try.prog 97 #[.int .u64 x] [] [] (fun v Ps' Os' => v = .int .i64 (Lib.bitLen x.toNat) ∧ Ps' = [] ∧ Os' = []) := by
  refine ⟨⟨_, Try.func97, by kernel_rfl, by kernel_rfl⟩, fun w hp ho hf hs hfw d1 d2 => ?_⟩
  have hcon := Any.bits_Len Try.lays125 x w h0 h1
  change Calls Try.prog 97 _ _ _ at hcon
  refine hcon.mono ?_
  rintro e w' ⟨rfl, rfl⟩
  exact ⟨_, hp, ho, [], [], rfl, ⟨rfl, rfl, rfl⟩, hs, Heap.le_refl _, hfw, d1, d2, .refl _⟩

set_option maxHeartbeats 2000000 in
set_option maxRecDepth 20000 in
theorem sortU (A : Option Addr) (c : Nat) (l : List Int) (hn : l.length ≤ 12) :
    Spec Try.prog 88 #[.slice A l.length c] [] [ol tU 22 A c l] (fun v Ps' Os' => ∃ m, m.Perm l ∧ v = .tuple #[] ∧ Ps' = [] ∧ Os' = [ol tU 22 A c m]) := by
 refine spec_of (fn := Try.f88) (args := [.slice A l.length c]) 11 Try.func88 rfl (by kernel_rfl) Try.ntmps88 (Nat.le_of_ble_eq_true rfl) (fun w0 hp0 hf0 => ?_)
 refine go_seq ?_
 refine go_len_ol (xs := l) (by repeat constructor) (fun l0 m0 => ?_)
 iterate 4 first | refine go_region rfl ?_ | refine go_pure0 Tk rfl rfl rfl ?_
 refine go_nil ?_
 refine go_env [(0, _), (2, _)] ⟨rfl, rfl, trivial⟩ ?_
 iterate 5 first | refine go_region rfl ?_ | refine go_pure0 Tk rfl rfl rfl ?_
 refine go_re 8 (.int .u64 (l.length : Int)) (by show some (Value.int _ _) = _; rw [wrap_u64 (by omega)]) ?_
 refine go_call (bitsLen (l.length : Int) (by omega) (by omega)) rfl rfl (by rfl) rfl (by repeat constructor) (by repeat constructor) (fun h => nomatch h) ?_
 rintro _ _ _ ⟨rfl, rfl, rfl⟩
 refine go_call (pdqU A c l _ hn) rfl rfl (by rfl) rfl (by repeat constructor) (by repeat constructor) (fun h => nomatch h) ?_
 rintro _ _ _ ⟨m, hm, rfl, rfl, rfl⟩
 refine go_nil ?_
 refine go_end ⟨rfl, rfl⟩ _ _ (res0 (by rfl)) ⟨m, hm, rfl, rfl, rfl⟩ (by repeat constructor) (by repeat constructor)

set_option maxHeartbeats 2000000 in
set_option maxRecDepth 20000 in
theorem compactU (A : Option Addr) (c : Nat) (l : List Int) (hn : l.length ≤ 1000000) :
    Spec Try.prog 89 #[.slice A l.length c] [] [ol tU 22 A c l] (fun v Ps' Os' => ∃ m, (∀ x, x ∈ m ↔ x ∈ l) ∧ m.length ≤ l.length ∧ v = .slice A m.length c ∧ Ps' = [] ∧ Os' = [ol tU 22 A c m]) := by
 refine spec_of (fn := Try.f89) (args := [.slice A l.length c]) 61 Try.func89 rfl (by kernel_rfl) Try.ntmps89 (Nat.le_of_ble_eq_true rfl) (fun w0 hp0 hf0 => ?_)
 refine go_seq ?_
 refine go_len_ol (xs := l) (by repeat constructor) (fun l0 m0 => ?_)
 refine go_region rfl ?_
 refine go_pure0 Tk rfl rfl rfl ?_
 refine go_nil ?_
 refine go_env [(0, _)] ⟨rfl, trivial⟩ ?_
 iterate 6 first | refine go_seq ?_ | refine go_region rfl ?_ | refine go_pure0 Tk rfl rfl rfl ?_
 refine go_nil ?_
 refine go_env [(0, _), (8, _)] ⟨rfl, rfl, trivial⟩ ?_
 refine go_condD rfl ?_ ?_
 ·intro h1
  iterate 4 first | refine go_seq ?_ | refine go_region rfl ?_ | refine go_pure0 Tk rfl rfl rfl ?_
  refine go_nil ?_
  refine go_env [(2, _)] ⟨rfl, trivial⟩ ?_
  refine go_ret ⟨rfl, rfl⟩ _ _ (res1 (by rfl) (.tmp rfl)) ⟨l, fun _ => .rfl, Nat.le_refl _, rfl, rfl, rfl⟩ (by repeat constructor) (by repeat constructor)
 ·intro h1
  refine go_ol_addr (xs := l) (by repeat constructor) (by omega) (fun bL hL => ?_); subst hL
  iterate 5 first | refine go_skip ?_ | refine go_seq ?_ | refine go_region rfl ?_ | refine go_pure0 Tk rfl rfl rfl ?_
  refine go_nil ?_
  refine go_env [(0, _), (3, _)] ⟨rfl, rfl, trivial⟩ ?_
  refine go_block ?_
  refine go_loop' (X := Nat) (fun k => [(3, .int .i64 (k : Int))]) [(0, _)] (fun _ => []) (fun k => k ≤ l.length ∧ 1 ≤ k) (fun k => l.length - k) (1) ⟨rfl, rfl, trivial⟩ (by repeat constructor) ⟨by omega, by omega⟩ ?_
  intro k ⟨hk, hk1⟩
  iterate 7 first | refine go_seq ?_ | refine go_region rfl ?_ | refine go_pure0 Tk rfl rfl rfl ?_
  refine go_nil ?_
  refine go_env [(0, _), (3, _), (13, _)] ⟨rfl, rfl, rfl, trivial⟩ ?_
  refine go_condD rfl ?_ ?_
  ·intro hq1
   iterate 4 first | refine go_skip ?_ | refine go_seq ?_ | refine go_block ?_
   refine go_draw'  [3, 8] (SL.pre [(1, 0), (1, 1), (1, 2), (1, 4), (1, 5), (1, 6), (1, 7), (2, 3), (2, 8), (1, 9)] .nil) mixed rfl (by kernel_rfl) ?_
   iterate 2 refine go_pure1 Tk rfl rfl rfl ?_
   refine go_val1 rfl (idx_val Tk rfl rfl rfl rfl rfl (by omega)) rfl ?_
   iterate 3 refine go_pure1 Tk rfl rfl rfl ?_
   refine go_i64 22 rfl (by omega) (by omega) ?_
   refine go_re 22 (.int .i64 ((k - 1 : Nat) : Int)) (by show some (Value.int _ _) = _; rw [show ((k - 1 : Nat) : Int) = (k : Int) - 1 by omega]) ?_
   refine go_val1 rfl (idx_val Tk rfl rfl rfl rfl rfl (by omega)) rfl ?_
   refine go_val2a rfl (load_val (cs := [.int .u32 l[k]]) Tk rfl rfl rfl (at_olp (fun y : Int => [.int .u32 y]) fc_int (xs := l) (by repeat constructor) (k) (List.getElem?_eq_getElem (by omega)) rfl rfl) rfl) rfl ?_
   refine go_val2a rfl (load_val (cs := [.int .u32 l[k - 1]]) Tk rfl rfl rfl (at_olp (fun y : Int => [.int .u32 y]) fc_int (xs := l) (by repeat constructor) (k - 1) (List.getElem?_eq_getElem (by omega)) rfl rfl) rfl) rfl ?_
   refine go_pure1 Tk rfl rfl rfl ?_
   refine go_nil ?_
   refine go_env [(0, _), (3, _), (25, _)] ⟨rfl, rfl, rfl, trivial⟩ ?_
   refine go_condD rfl ?_ ?_
   ·intro g1
    iterate 4 first | refine go_seq ?_ | refine go_region rfl ?_ | refine go_pure0 Tk rfl rfl rfl ?_
    refine go_val0 rfl (slice_val' Tk rfl rfl rfl rfl k l.length c (.slice (some ⟨bL, 0 + k * 1, none⟩) (l.length - k) (c - k)) (by first | rfl | exact ⟨_, rfl⟩ | exact ⟨rfl, rfl⟩) (by first | rfl | exact ⟨_, rfl⟩ | exact ⟨rfl, rfl⟩) (by first | rfl | exact ⟨_, rfl⟩ | exact ⟨rfl, rfl⟩) (by omega) (by omega) (by omega) (by rw [subN (by omega)]; rfl)) rfl ?_
    refine go_pure0 Tk rfl rfl rfl ?_
    refine go_nil ?_
    refine go_env [(0, _), (3, _), (4, _)] ⟨rfl, rfl, rfl, trivial⟩ ?_
    iterate 4 first | refine go_seq ?_ | refine go_region rfl ?_ | refine go_pure0 Tk rfl rfl rfl ?_
    refine go_nil ?_
    refine go_env [(0, _), (3, _), (4, _), (5, _)] ⟨rfl, rfl, rfl, rfl, trivial⟩ ?_
    refine go_block ?_
    refine go_loop' (X := Nat × Nat × List Int) (fun x => [(3, .int .i64 (x.1 : Int)), (5, .int .i64 (x.2.1 : Int))]) [(0, _), (4, _)] (fun x => [ol tU 22 (some ⟨bL, 0, none⟩) c x.2.2]) (fun x => CmpI l x.2.2 k x.1 x.2.1) (fun x => l.length - x.2.1) ((k, 1, l)) ⟨rfl, rfl, rfl, rfl, trivial⟩ (by repeat constructor) (CmpI.start hk1 (by omega) g1) ?_
    intro ⟨m, i, ys⟩ hC
    simp only at hC ⊢
    have hC1 := hC.len
    have hC2 := hC.lo
    have hC3 := hC.hi
    have hC4 := hC.i1
    have hC5 := hC.i2
    iterate 7 first | refine go_seq ?_ | refine go_region rfl ?_ | refine go_pure0 Tk rfl rfl rfl ?_
    refine go_nil ?_
    refine go_env [(0, _), (3, _), (4, _), (5, _), (32, _)] ⟨rfl, rfl, rfl, rfl, rfl, trivial⟩ ?_
    refine go_condD rfl ?_ ?_
    ·intro hq2
     iterate 4 first | refine go_skip ?_ | refine go_seq ?_ | refine go_block ?_
     refine go_draw'  [3, 8] (SL.pre [(1, 0), (1, 1), (1, 2), (1, 4), (1, 5), (1, 6), (1, 7), (2, 3), (2, 8), (1, 9)] .nil) mixed rfl (by kernel_rfl) ?_
     iterate 2 refine go_pure1 Tk rfl rfl rfl ?_
     refine go_val1 rfl (idx_val Tk rfl rfl rfl rfl rfl (by omega)) rfl ?_
     iterate 3 refine go_pure1 Tk rfl rfl rfl ?_
     refine go_i64 41 rfl (by omega) (by omega) ?_
     refine go_re 41 (.int .i64 ((i - 1 : Nat) : Int)) (by show some (Value.int _ _) = _; rw [show ((i - 1 : Nat) : Int) = (i : Int) - 1 by omega]) ?_
     refine go_val1 rfl (idx_val Tk rfl rfl rfl rfl rfl (by omega)) rfl ?_
     refine go_val2a rfl (load_val (cs := [.int .u32 ys[k + i]]) Tk rfl rfl rfl (at_olp (fun y : Int => [.int .u32 y]) fc_int (xs := ys) (by repeat constructor) (k + i) (List.getElem?_eq_getElem (by omega)) (by show 0 + k * 1 + i * 1 = 0 + (k + i) * 1; omega) rfl) rfl) rfl ?_
     refine go_val2a rfl (load_val (cs := [.int .u32 ys[k + i - 1]]) Tk rfl rfl rfl (at_olp (fun y : Int => [.int .u32 y]) fc_int (xs := ys) (by repeat constructor) (k + i - 1) (List.getElem?_eq_getElem (by omega)) (by show 0 + k * 1 + (i - 1) * 1 = 0 + (k + i - 1) * 1; omega) rfl) rfl) rfl ?_
     refine go_pure1 Tk rfl rfl rfl ?_
     refine go_nil ?_
     refine go_env [(0, _), (3, _), (4, _), (5, _), (44, _)] ⟨rfl, rfl, rfl, rfl, rfl, trivial⟩ ?_
     refine go_condN rfl ?_ ?_
     ·intro g2
      iterate 6 first | refine go_seq ?_ | refine go_region rfl ?_ | refine go_pure0 Tk rfl rfl rfl ?_
      refine go_val0 rfl (idx_val Tk rfl rfl rfl rfl rfl (by omega)) rfl ?_
      refine go_val0 rfl (load_val (cs := [.int .u32 ys[k + i]]) Tk rfl rfl rfl (at_olp (fun y : Int => [.int .u32 y]) fc_int (xs := ys) (by repeat constructor) (k + i) (List.getElem?_eq_getElem (by omega)) (by show 0 + k * 1 + i * 1 = 0 + (k + i) * 1; omega) rfl) rfl) rfl ?_
      refine go_val0 rfl (idx_val Tk rfl rfl rfl rfl rfl (by omega)) rfl ?_
      refine go_store_el (T := tU) (xs := ys) (j := m) Tk (ys[k + i]) rfl rfl rfl rfl rfl rfl (by repeat constructor) (by omega) rfl rfl ent_int (fun h => nomatch h) ?_
      refine go_nil ?_
      refine go_env [(0, _), (3, _), (4, _), (5, _)] ⟨rfl, rfl, rfl, rfl, trivial⟩ ?_
      iterate 3 first | refine go_region rfl ?_ | refine go_pure0 Tk rfl rfl rfl ?_
      refine go_i64 53 rfl (by omega) (by omega) ?_
      refine go_pure0 Tk rfl rfl rfl ?_
      refine go_nil ?_
      refine go_env [(0, _), (3, _), (4, _), (5, _)] ⟨rfl, rfl, rfl, rfl, trivial⟩ ?_
      refine go_blk ?_
      iterate 4 first | refine go_region rfl ?_ | refine go_pure0 Tk rfl rfl rfl ?_
      refine go_nil ?_
      refine go_i64 5 rfl (by omega) (by omega) ?_
      refine go_back (m + 1, i + 1, ys.set m ys[k + i]) ⟨rfl, rfl, rfl, rfl, trivial⟩ (by repeat constructor) (by repeat constructor) (hC.keep (by omega)) (by show l.length - (i + 1) < l.length - i; omega)
     ·intro g2
      have g3 : l[k + i] = l[k + i - 1] := by rw [← hC.get (k + i) (by omega) (by omega), ← hC.get (k + i - 1) (by omega) (by omega)]; exact g2
      refine go_skip ?_
      refine go_blk ?_
      iterate 4 first | refine go_region rfl ?_ | refine go_pure0 Tk rfl rfl rfl ?_
      refine go_nil ?_
      refine go_i64 5 rfl (by omega) (by omega) ?_
      refine go_back (m, i + 1, ys) ⟨rfl, rfl, rfl, rfl, trivial⟩ (by repeat constructor) (by repeat constructor) (hC.skip (by omega) g3) (by show l.length - (i + 1) < l.length - i; omega)
    ·intro hq2
     refine go_exit rfl ?_
     refine go_seq ?_
     have hfin := hC.done (by omega)
     refine go_ol_open (xs := ys) (by repeat constructor) (by omega) (fun b0 cs cur hA h1 h2 h3 h4 h5 => ?_); cases hA
     have hms : m * tU.size ≤ l.length * tU.size := Nat.mul_le_mul_right _ (by omega)
     have hms2 : m * tU.size ≤ ys.length * tU.size := Nat.mul_le_mul_right _ (by omega)
     have hmc : l.length * tU.size ≤ c * tU.size := Nat.mul_le_mul_right _ (by omega)
     iterate 3 first | refine go_region rfl ?_ | refine go_pure0 Tk rfl rfl rfl ?_
     refine go_val0 rfl (slice_val' Tk rfl rfl rfl rfl m l.length c (.slice (some ⟨bL, 0 + m * tU.size, none⟩) (l.length - m) (c - m)) (by first | rfl | exact ⟨_, rfl⟩ | exact ⟨rfl, rfl⟩) (by first | rfl | exact ⟨_, rfl⟩ | exact ⟨rfl, rfl⟩) (by first | rfl | exact ⟨_, rfl⟩ | exact ⟨rfl, rfl⟩) (by omega) (by omega) (by omega) (by rw [subN (by omega)]; rfl)) rfl ?_
     refine go_clear Tk rfl rfl rfl rfl rfl rfl rfl rfl (by repeat constructor) (by show 0 + m * tU.size + (l.length - m) * tU.size ≤ _; rw [Nat.sub_mul]; omega) (fun h => nomatch h) ?_
     intro zs hzs
     have hzs2 : 0 + m * tU.size + zs.length ≤ cur.length := by rw [hzs]; show 0 + m * tU.size + (l.length - m) * tU.size ≤ _; rw [Nat.sub_mul]; omega
     refine go_rps (cs.take (m * tU.size)) (xs := ys) (by repeat constructor) (fun _ q => q.head (m := m) (by omega)) ?_
     refine go_ol_close (ys.take m) (by repeat constructor) (by repeat constructor) (by rw [putS_len hzs2]; exact h1) (by rw [List.length_take, Nat.min_eq_left (by omega), putS_low hzs2 (by omega), ← h2, List.take_take, Nat.min_eq_left (by omega)]) (by rw [List.length_take]; omega) h4 ?_
     have hml : m = (ys.take m).length := by rw [List.length_take]; omega
     refine go_nil ?_
     refine go_env [(0, _), (3, _)] ⟨rfl, rfl, trivial⟩ ?_
     iterate 4 first | refine go_seq ?_ | refine go_region rfl ?_ | refine go_pure0 Tk rfl rfl rfl ?_
     refine go_val0 rfl (slice_val' Tk rfl rfl rfl rfl 0 m c (.slice (some ⟨bL, 0, none⟩) (ys.take m).length c) (by first | rfl | exact ⟨_, rfl⟩ | exact ⟨rfl, rfl⟩) (by first | rfl | exact ⟨_, rfl⟩ | exact ⟨rfl, rfl⟩) (by first | rfl | exact ⟨_, rfl⟩ | exact ⟨rfl, rfl⟩) (by omega) (by omega) (by omega) (by rw [sub0, ← hml]; rfl)) rfl ?_
     refine go_pure0 Tk rfl rfl rfl ?_
     refine go_nil ?_
     refine go_env [(2, _)] ⟨rfl, trivial⟩ ?_
     refine go_ret ⟨rfl, rfl⟩ _ _ (res1 (by rfl) (.tmp rfl)) ⟨ys.take m, hfin, by rw [← hml]; omega, rfl, rfl, rfl⟩ (by repeat constructor) (by repeat constructor)
   ·intro g1
    refine go_skip ?_
    refine go_blk ?_
    iterate 4 first | refine go_region rfl ?_ | refine go_pure0 Tk rfl rfl rfl ?_
    refine go_nil ?_
    refine go_i64 3 rfl (by omega) (by omega) ?_
    refine go_back (k + 1) ⟨rfl, rfl, trivial⟩ (by repeat constructor) (by repeat constructor) (⟨by omega, by omega⟩) (by omega)
  ·intro hq1
   iterate 5 first | refine go_exit rfl ?_ | refine go_seq ?_ | refine go_region rfl ?_ | refine go_pure0 Tk rfl rfl rfl ?_
   refine go_nil ?_
   refine go_env [(2, _)] ⟨rfl, trivial⟩ ?_
   refine go_ret ⟨rfl, rfl⟩ _ _ (res1 (by rfl) (.tmp rfl)) ⟨l, fun _ => .rfl, Nat.le_refl _, rfl, rfl, rfl⟩ (by repeat constructor) (by repeat constructor)

set_option maxHeartbeats 2000000 in
set_option maxRecDepth 20000 in
theorem varsA (a : Am) (AA : Option Addr) (ac : Nat) (hn : a.a.length ≤ 12) :
    Spec Try.prog 73 #[.agg #[.int .u32 a.p, .slice AA a.a.length ac]] [sl tTm AA ac a.a] [] (fun v Ps' Os' => ∃ A c vs, v = .slice A vs.length c ∧ (∀ x, x ∈ vs ↔ x ∈ vars a) ∧ vs.length ≤ 12 ∧ Ps' = [sl tU A c vs] ∧ Os' = []) := by
 refine spec_of (fn := Try.f73) (args := [.agg #[.int .u32 a.p, .slice AA a.a.length ac]]) 25 Try.func73 rfl (by kernel_rfl) Try.ntmps73 (Nat.le_of_ble_eq_true rfl) (fun w0 hp0 hf0 => ?_)
 refine go_seq ?_
 refine go_region rfl ?_
 refine go_box Tk rfl rfl rfl rfl (by rfl) rfl rfl (fun h => nomatch h) ?_
 intro b1
 refine go_pure0 Tk rfl rfl rfl ?_
 refine go_nil ?_
 refine go_env [(1, _)] ⟨rfl, trivial⟩ ?_
 refine go_seq ?_
 refine go_region rfl ?_
 refine go_pure0 Tk rfl rfl rfl ?_
 refine go_nil ?_
 refine go_env [(1, _), (3, _)] ⟨rfl, rfl, trivial⟩ ?_
 iterate 2 refine go_seq ?_
 refine go_len (xs := a.a) (by repeat constructor) (fun l0 m0 => ?_)
 refine go_own_nil tU 22 none ?_
 rw [show ([] : List Int) = vars ⟨a.p, a.a.take 0⟩ from rfl]
 iterate 5 first | refine go_region rfl ?_ | refine go_pure0 Tk rfl rfl rfl ?_ | refine go_val0 rfl (ldv Tk rfl rfl rfl) rfl ?_
 refine go_nil ?_
 refine go_env [(3, _), (7, _), (8, _), (9, _)] ⟨rfl, rfl, rfl, rfl, trivial⟩ ?_
 refine go_block ?_
 refine go_loop' (X := Nat × Option Addr × Nat) (fun x => [(3, .slice x.2.1 (vars ⟨a.p, a.a.take x.1⟩).length x.2.2), (9, .int .i64 (x.1 : Int))]) [(7, _), (8, _)] (fun x => [ol tU 22 x.2.1 x.2.2 (vars ⟨a.p, a.a.take x.1⟩)]) (fun x => x.1 ≤ a.a.length) (fun x => a.a.length - x.1) ((0, none, 0)) ⟨rfl, rfl, rfl, rfl, trivial⟩ (by repeat constructor) (by omega) ?_
 intro ⟨k, A1, c1⟩ hk
 simp only at hk ⊢
 have hvl := vars_len a k
 refine go_seq ?_
 refine go_region rfl ?_
 refine go_pure0 Tk rfl rfl rfl ?_
 refine go_nil ?_
 refine go_env [(3, _), (7, _), (8, _), (9, _), (10, _)] ⟨rfl, rfl, rfl, rfl, rfl, trivial⟩ ?_
 refine go_seq ?_
 refine go_condD rfl ?_ ?_
 ·intro hq1
  iterate 4 first | refine go_skip ?_ | refine go_seq ?_ | refine go_block ?_
  refine go_elem_tm (xs := a.a) (by repeat constructor) (k) (List.getElem?_eq_getElem (by omega)) (fun b0 o0 hA => ?_); cases hA
  refine go_region rfl ?_
  refine go_val0 rfl (idx_val Tk rfl rfl rfl rfl rfl (by omega)) rfl ?_
  refine go_val0 rfl (ldv Tk rfl rfl rfl) rfl ?_
  refine go_alloc Tk rfl rfl rfl (by rfl) rfl rfl (fun h => nomatch h) ?_
  intro b2
  refine go_store Tk rfl rfl rfl rfl rfl rfl (by repeat constructor) rfl rfl (by rfl) (fun h => nomatch h) ?_
  refine go_nil ?_
  refine go_env [(3, _), (5, _), (7, _), (8, _), (9, _)] ⟨rfl, rfl, rfl, rfl, rfl, trivial⟩ ?_
  refine go_seq ?_
  refine go_region rfl ?_
  refine go_pure0 Tk rfl rfl rfl ?_
  refine go_val0 rfl (ldv Tk rfl rfl rfl) rfl ?_
  refine go_nil ?_
  refine go_env [(3, _), (5, _), (7, _), (8, _), (9, _), (14, _)] ⟨rfl, rfl, rfl, rfl, rfl, rfl, trivial⟩ ?_
  refine go_cond rfl ?_ ?_
  ·intro g1
   (try simp only [decide_eq_true_eq, decide_eq_false_iff_not, Bool.not_eq_true', Bool.not_eq_false', Bool.not_eq_eq_eq_not, Bool.not_true, Bool.not_false, Int.not_lt, Int.not_le, beq_iff_eq, beq_eq_false_iff_ne, ne_eq] at g1)
   iterate 4 first | refine go_region rfl ?_ | refine go_pure0 Tk rfl rfl rfl ?_ | refine go_val0 rfl (ldv Tk rfl rfl rfl) rfl ?_
   refine go_bslice Tk rfl rfl rfl rfl rfl rfl rfl rfl (fun h => nomatch h) ?_
   intro b3
   refine go_append1 (T := tU) (xs := vars ⟨a.p, a.a.take k⟩) Tk (a.a[k].n) rfl rfl rfl rfl rfl rfl rfl rfl rfl (by repeat constructor) (by repeat constructor) rfl ent_int (by omega) (by first | exact (fun _ _ _ => satA) | exact (fun h => nomatch h) | exact (fun h => nomatch (Eq.symm h).trans (show _ = false by kernel_rfl))) ?_
   intro A3 c3
   refine go_pure0 Tk rfl rfl rfl ?_
   refine go_nil ?_
   refine go_env [(3, _), (7, _), (8, _), (9, _)] ⟨rfl, rfl, rfl, rfl, trivial⟩ ?_
   refine go_blk ?_
   iterate 3 first | refine go_region rfl ?_ | refine go_pure0 Tk rfl rfl rfl ?_
   refine go_nil ?_
   refine go_i64 9 rfl (by omega) (by omega) ?_
   have hnx := vars_yes (a := a) (k := k) (by omega) g1
   rw [← hnx]
   refine go_back (k + 1, A3, c3) ⟨rfl, rfl, rfl, rfl, trivial⟩ (by repeat constructor) (by repeat constructor) (by show k + 1 ≤ _; omega) (by show a.a.length - (k + 1) < a.a.length - k; omega)
  ·intro g1
   (try simp only [decide_eq_true_eq, decide_eq_false_iff_not, Bool.not_eq_true', Bool.not_eq_false', Bool.not_eq_eq_eq_not, Bool.not_true, Bool.not_false, Int.not_lt, Int.not_le, beq_iff_eq, beq_eq_false_iff_ne, ne_eq] at g1)
   refine go_skip ?_
   refine go_blk ?_
   iterate 3 first | refine go_region rfl ?_ | refine go_pure0 Tk rfl rfl rfl ?_
   refine go_nil ?_
   refine go_i64 9 rfl (by omega) (by omega) ?_
   have hnx := vars_no (a := a) (k := k) (by omega) g1
   rw [← hnx]
   refine go_back (k + 1, A1, c1) ⟨rfl, rfl, rfl, rfl, trivial⟩ (by repeat constructor) (by repeat constructor) (by show k + 1 ≤ _; omega) (by show a.a.length - (k + 1) < a.a.length - k; omega)
 ·intro hq1
  refine go_exit rfl ?_
  refine go_seq ?_
  have htk : a.a.take k = a.a := List.take_of_length_le (by omega)
  have hv12 := vars_len a k
  refine go_region rfl ?_
  refine go_pure0 Tk rfl rfl rfl ?_
  refine go_call (sortU A1 c1 (vars ⟨a.p, a.a.take k⟩) (by omega)) rfl rfl (by rfl) rfl (by repeat constructor) (by repeat constructor) (fun h => nomatch h) ?_
  rintro _ _ _ ⟨m1, hm1, rfl, rfl, rfl⟩
  have hm1l := hm1.length_eq
  refine go_nil ?_
  refine go_env [(3, _)] ⟨rfl, trivial⟩ ?_
  refine go_seq ?_
  refine go_re 3 (.slice A1 m1.length c1) (by show some (Value.slice _ _ _) = _; rw [hm1l]) ?_
  refine go_region rfl ?_
  refine go_pure0 Tk rfl rfl rfl ?_
  refine go_call (compactU A1 c1 m1 (by omega)) rfl rfl (by rfl) rfl (by repeat constructor) (by repeat constructor) (fun h => nomatch h) ?_
  rintro _ _ _ ⟨m2, hm2, hl2, rfl, rfl, rfl⟩
  refine go_freeze_ol (xs := m2) (by repeat constructor) ?_
  refine go_pure0 Tk rfl rfl rfl ?_
  refine go_nil ?_
  refine go_env [(2, _)] ⟨rfl, trivial⟩ ?_
  refine go_ret ⟨rfl, rfl⟩ _ _ (res1 (by rfl) (.tmp rfl)) ⟨A1, c1, m2, rfl, fun x => by rw [hm2, hm1.mem_iff, htk], by omega, rfl, rfl⟩ (by repeat constructor) (by repeat constructor)

end Go.Proofs.Ytkhddfknpegpmaa.SL

/- Contracts of functions of the program (Safed): what each call comes to, for the laws' proofs. -/
set_option linter.unusedVariables false
set_option linter.unusedSimpArgs false
namespace Go.Proofs.Ytkhddfknpegpmaa.SL
open Go 

set_option maxHeartbeats 2000000 in
set_option maxRecDepth 20000 in
theorem safeHeld1 (bm b : Nat) (m : List (Int × Value)) (st : List Int) (hm : Ones m st) (a : Am) (AA : Option Addr) (ac : Nat) (hn : a.a.length ≤ 12) :
    Spec Try.prog 74 #[.agg #[.int .u32 a.p, .slice AA a.a.length ac], .pointer (some ⟨bm, 0, none⟩)] [cl bm 0 [.map (some b)], sl tTm AA ac a.a] [mapO b .u32 m] (fun v Ps' Os' => v = .bool ((vars a).all fun v => decide (v ∈ st)) ∧ Ps' = [] ∧ Os' = [mapO b .u32 m]) := by
 refine spec_of (fn := Try.f74) (args := [.agg #[.int .u32 a.p, .slice AA a.a.length ac], .pointer (some ⟨bm, 0, none⟩)]) 18 Try.func74 rfl (by kernel_rfl) Try.ntmps74 (Nat.le_of_ble_eq_true rfl) (fun w0 hp0 hf0 => ?_)
 refine go_seq ?_
 refine go_region rfl ?_
 refine go_box Tk rfl rfl rfl rfl (by rfl) rfl rfl (fun h => nomatch h) ?_
 intro b1
 refine go_pure0 Tk rfl rfl rfl ?_
 refine go_nil ?_
 refine go_env [(1, _), (2, _)] ⟨rfl, rfl, trivial⟩ ?_
 refine go_seq ?_
 refine go_seq ?_
 refine go_region rfl ?_
 refine go_val0 rfl (ldv Tk rfl rfl rfl) rfl ?_
 refine go_call (varsA a AA ac hn) rfl rfl (by rfl) rfl (by repeat constructor) (by repeat constructor) (fun h => nomatch h) ?_
 rintro _ _ _ ⟨A1, c1, vs, rfl, hvs, hvl, rfl, rfl⟩
 iterate 2 refine go_pure0 Tk rfl rfl rfl ?_
 refine go_nil ?_
 refine go_env [(1, _), (7, _), (8, _), (9, _)] ⟨rfl, rfl, rfl, rfl, trivial⟩ ?_
 refine go_block ?_
 refine go_loop' (X := Nat) (fun k => [(9, .int .i64 (k : Int))]) [(1, _), (7, _), (8, _)] (fun _ => []) (fun k => k ≤ vs.length ∧ ∀ x ∈ vs.take k, x ∈ st) (fun k => vs.length - k) (0) ⟨rfl, rfl, rfl, rfl, trivial⟩ (by repeat constructor) ⟨by omega, by simp⟩ ?_
 intro k ⟨hk, hz⟩
 refine go_seq ?_
 refine go_region rfl ?_
 refine go_pure0 Tk rfl rfl rfl ?_
 refine go_nil ?_
 refine go_env [(1, _), (7, _), (8, _), (9, _), (10, _)] ⟨rfl, rfl, rfl, rfl, rfl, trivial⟩ ?_
 refine go_seq ?_
 refine go_condD rfl ?_ ?_
 ·intro hq1
  iterate 4 first | refine go_skip ?_ | refine go_seq ?_ | refine go_block ?_
  refine go_elem_int (xs := vs) (by repeat constructor) (k) (List.getElem?_eq_getElem (by omega)) (fun b o hA => ?_); cases hA
  refine go_region rfl ?_
  refine go_val0 rfl (idx_val Tk rfl rfl rfl rfl rfl (by omega)) rfl ?_
  refine go_val0 rfl (ldv Tk rfl rfl rfl) rfl ?_
  refine go_pure0 Tk rfl rfl rfl ?_
  refine go_nil ?_
  refine go_env [(1, _), (5, _), (7, _), (8, _), (9, _)] ⟨rfl, rfl, rfl, rfl, rfl, trivial⟩ ?_
  refine go_seq ?_
  refine go_region rfl ?_
  refine go_val0 rfl (ldv Tk rfl rfl rfl) rfl ?_
  refine go_pure0 Tk rfl rfl rfl ?_
  refine go_val0 rfl (lookup_val (m := m) (n := vs[k]) (c := false) (v := (mget m vs[k]).getD (.int .i64 0)) Tk rfl rfl rfl rfl rfl rfl (by repeat constructor) rfl) rfl ?_
  refine go_re 15 (.int .i64 (if vs[k] ∈ st then 1 else 0)) (by show some _ = some _; rw [hm]; split <;> rfl) ?_
  refine go_pure0 Tk rfl rfl rfl ?_
  refine go_nil ?_
  refine go_env [(1, _), (7, _), (8, _), (9, _), (16, _)] ⟨rfl, rfl, rfl, rfl, rfl, trivial⟩ ?_
  refine go_condD rfl ?_ ?_
  ·intro g0
   have g1 : vs[k] ∉ st := fun h => by rw [if_pos h] at g0; cases g0
   refine go_seq ?_
   refine go_region rfl ?_
   refine go_pure0 Tk rfl rfl rfl ?_
   refine go_nil ?_
   refine go_env [(3, _)] ⟨rfl, trivial⟩ ?_
   refine go_ret ⟨rfl, rfl⟩ _ _ (res1 (by rfl) (.tmp rfl)) ⟨congrArg Value.bool (Eq.symm (List.all_eq_false.2 ⟨vs[k], (hvs _).1 (List.getElem_mem _), by simpa using g1⟩)), rfl, rfl⟩ (by repeat constructor) (by repeat constructor)
  ·intro g0
   have g1 : vs[k] ∈ st := Decidable.byContradiction fun h => g0 (if_neg h)
   refine go_skip ?_
   refine go_blk ?_
   iterate 3 first | refine go_region rfl ?_ | refine go_pure0 Tk rfl rfl rfl ?_
   refine go_nil ?_
   refine go_i64 9 rfl (by omega) (by omega) ?_
   refine go_back (k + 1) ⟨rfl, rfl, rfl, rfl, trivial⟩ (by repeat constructor) (by repeat constructor) (⟨by omega, fun x hx => ((mem_take_succ (by omega) x).1 hx).elim (hz x) (fun e => by rw [e]; exact g1)⟩) (by omega)
 ·intro hq1
  refine go_exit rfl ?_
  refine go_seq ?_
  refine go_region rfl ?_
  refine go_pure0 Tk rfl rfl rfl ?_
  refine go_nil ?_
  refine go_env [(3, _)] ⟨rfl, trivial⟩ ?_
  refine go_ret ⟨rfl, rfl⟩ _ _ (res1 (by rfl) (.tmp rfl)) ⟨congrArg Value.bool (Eq.symm (List.all_eq_true.2 fun x hx => by rw [List.take_of_length_le (by omega)] at hz; simpa using hz x ((hvs x).2 hx))), rfl, rfl⟩ (by repeat constructor) (by repeat constructor)

set_option maxHeartbeats 2000000 in
set_option maxRecDepth 20000 in
theorem safeFits (b : Nat) (m : List (Int × Value)) (L : Lens) (hm : Lens.Is m L) (p n : Int) :
    Spec Try.prog 75 #[.map (some b), .int .u32 p, .int .i64 n] [] [mapO b .u32 m] (fun v Ps' Os' => ∃ m', Lens.Is m' (learn L p n) ∧ v = .bool (fitB L p n) ∧ Ps' = [] ∧ Os' = [mapO b .u32 m']) := by
 refine spec_of (fn := Try.f75) (args := [.map (some b), .int .u32 p, .int .i64 n]) 27 Try.func75 rfl (by kernel_rfl) Try.ntmps75 (Nat.le_of_ble_eq_true rfl) (fun w0 hp0 hf0 => ?_)
 refine go_seq ?_
 by_cases h0 : L p = none
 ·skip
  refine go_region rfl ?_
  refine go_pure0 Tk rfl rfl rfl ?_
  refine go_nil ?_
  refine go_env [(0, _), (1, _), (2, _)] ⟨rfl, rfl, rfl, trivial⟩ ?_
  iterate 4 first | refine go_seq ?_ | refine go_region rfl ?_ | refine go_pure0 Tk rfl rfl rfl ?_
  refine go_val0 rfl (lookup_val (m := m) (n := p) (c := true) (v := .tuple #[(mget m p).getD (.int .i64 0), .bool (mget m p).isSome]) Tk rfl rfl rfl rfl rfl rfl (by repeat constructor) rfl) rfl ?_
  iterate 2 refine go_pure0 Tk rfl rfl rfl ?_
  refine go_re 13 (.int .i64 0) (by show some _ = some _; rw [hm, h0]; rfl) ?_
  refine go_pure0 Tk rfl rfl rfl ?_
  refine go_re 14 (.bool false) (by show some (Value.bool _) = _; rw [hm, h0]; rfl) ?_
  iterate 2 refine go_pure0 Tk rfl rfl rfl ?_
  refine go_nil ?_
  refine go_env [(0, _), (1, _), (2, _), (7, _), (8, _)] ⟨rfl, rfl, rfl, rfl, rfl, trivial⟩ ?_
  iterate 5 first | refine go_seq ?_ | refine go_region rfl ?_ | refine go_pure0 Tk rfl rfl rfl ?_
  refine go_nil ?_
  refine go_env [(0, _), (1, _), (2, _), (7, _), (8, _), (16, _)] ⟨rfl, rfl, rfl, rfl, rfl, rfl, trivial⟩ ?_
  refine go_cond_t rfl ?_
  iterate 4 first | refine go_region rfl ?_ | refine go_pure0 Tk rfl rfl rfl ?_
  refine go_mset Tk rfl rfl rfl rfl rfl rfl rfl rfl (by repeat constructor) (fun h => nomatch h) ?_
  refine go_nil ?_
  refine go_env [(2, _), (7, _), (8, _)] ⟨rfl, rfl, rfl, trivial⟩ ?_
  iterate 10 first | refine go_seq ?_ | refine go_region rfl ?_ | refine go_pure0 Tk rfl rfl rfl ?_ | refine go_skip0 rfl rfl ?_
  refine go_nil ?_
  refine go_env [(6, _)] ⟨rfl, trivial⟩ ?_
  refine go_ret ⟨rfl, rfl⟩ _ _ (res1 (by rfl) (.tmp rfl)) ⟨_, hm.new h0 n, by unfold fitB; rw [h0], rfl, rfl⟩ (by repeat constructor) (by repeat constructor)
 ·skip
  obtain ⟨w, hw⟩ := Option.ne_none_iff_exists'.1 h0
  refine go_region rfl ?_
  refine go_pure0 Tk rfl rfl rfl ?_
  refine go_nil ?_
  refine go_env [(0, _), (1, _), (2, _)] ⟨rfl, rfl, rfl, trivial⟩ ?_
  iterate 4 first | refine go_seq ?_ | refine go_region rfl ?_ | refine go_pure0 Tk rfl rfl rfl ?_
  refine go_val0 rfl (lookup_val (m := m) (n := p) (c := true) (v := .tuple #[(mget m p).getD (.int .i64 0), .bool (mget m p).isSome]) Tk rfl rfl rfl rfl rfl rfl (by repeat constructor) rfl) rfl ?_
  iterate 2 refine go_pure0 Tk rfl rfl rfl ?_
  refine go_re 13 (.int .i64 w) (by show some _ = some _; rw [hm, hw]; rfl) ?_
  refine go_pure0 Tk rfl rfl rfl ?_
  refine go_re 14 (.bool true) (by show some (Value.bool _) = _; rw [hm, hw]; rfl) ?_
  iterate 2 refine go_pure0 Tk rfl rfl rfl ?_
  refine go_nil ?_
  refine go_env [(0, _), (1, _), (2, _), (7, _), (8, _)] ⟨rfl, rfl, rfl, rfl, rfl, trivial⟩ ?_
  iterate 5 first | refine go_seq ?_ | refine go_region rfl ?_ | refine go_pure0 Tk rfl rfl rfl ?_
  refine go_nil ?_
  refine go_env [(0, _), (1, _), (2, _), (7, _), (8, _), (16, _)] ⟨rfl, rfl, rfl, rfl, rfl, rfl, trivial⟩ ?_
  refine go_cond_f rfl ?_
  iterate 11 first | refine go_skip ?_ | refine go_seq ?_ | refine go_region rfl ?_ | refine go_pure0 Tk rfl rfl rfl ?_
  refine go_nil ?_
  refine go_env [(6, _)] ⟨rfl, trivial⟩ ?_
  refine go_ret ⟨rfl, rfl⟩ _ _ (res1 (by rfl) (.tmp rfl)) ⟨m, by rw [learn_old hw]; exact hm, by unfold fitB; rw [hw], rfl, rfl⟩ (by repeat constructor) (by repeat constructor)

set_option maxHeartbeats 2000000 in
set_option maxRecDepth 20000 in
theorem safeClause (b : Nat) (m : List (Int × Value)) (L : Lens) (hm : Lens.Is m L) (c : Cl) (CA : Option Addr) (cc : Nat) (CB : Option Addr) (cd : Nat) :
    Spec Try.prog 59 #[.map (some b), .agg #[.int .u32 c.h.p, .slice CA c.h.a.length cc, .slice CB c.b.length cd]] [sl tTm CA cc c.h.a, sl tLi CB cd c.b] [mapO b .u32 m] (fun v Ps' Os' => ∃ m', Lens.Is m' (clauseL L c).2 ∧ v = .bool (clauseL L c).1 ∧ Ps' = [] ∧ Os' = [mapO b .u32 m']) := by
 refine spec_of (fn := Try.f59) (args := [.map (some b), .agg #[.int .u32 c.h.p, .slice CA c.h.a.length cc, .slice CB c.b.length cd]]) 38 Try.func59 rfl (by kernel_rfl) Try.ntmps59 (Nat.le_of_ble_eq_true rfl) (fun w0 hp0 hf0 => ?_)
 refine go_seq ?_
 refine go_region rfl ?_
 refine go_box Tk rfl rfl rfl rfl (by rfl) rfl rfl (fun h => nomatch h) ?_
 intro b1
 refine go_pure0 Tk rfl rfl rfl ?_
 refine go_nil ?_
 refine go_env [(0, _), (3, _)] ⟨rfl, rfl, trivial⟩ ?_
 refine go_seq ?_
 refine go_len (xs := c.h.a) (by repeat constructor) (fun lh mh => ?_)
 iterate 9 first | refine go_region rfl ?_ | refine go_pure0 Tk rfl rfl rfl ?_ | refine go_val0 rfl (ldv Tk rfl rfl rfl) rfl ?_
 refine go_call (safeFits b m L hm c.h.p c.h.a.length) rfl rfl (by rfl) rfl (by repeat constructor) (by repeat constructor) (fun h => nomatch h) ?_
 rintro _ _ _ ⟨m1, hm1, rfl, rfl, rfl⟩
 refine go_pure0 Tk rfl rfl rfl ?_
 refine go_nil ?_
 refine go_re 5 (.bool (clauseL L ⟨c.h, c.b.take 0⟩).1) (by show some (Value.bool _) = some (Value.bool _); unfold clauseL; simp [stepL]) ?_
 refine go_env [(0, _), (3, _), (5, _)] ⟨rfl, rfl, rfl, trivial⟩ ?_
 iterate 2 refine go_seq ?_
 refine go_len (xs := c.b) (by repeat constructor) (fun l0 m0 => ?_)
 iterate 5 first | refine go_region rfl ?_ | refine go_pure0 Tk rfl rfl rfl ?_ | refine go_val0 rfl (ldv Tk rfl rfl rfl) rfl ?_
 refine go_nil ?_
 refine go_env [(0, _), (5, _), (18, _), (19, _), (20, _)] ⟨rfl, rfl, rfl, rfl, rfl, trivial⟩ ?_
 refine go_block ?_
 refine go_loop' (X := Nat × List (Int × Value)) (fun x => [(5, .bool (clauseL L ⟨c.h, c.b.take x.1⟩).1), (20, .int .i64 (x.1 : Int))]) [(0, _), (18, _), (19, _)] (fun x => [mapO b .u32 x.2]) (fun x => x.1 ≤ c.b.length ∧ Lens.Is x.2 (clauseL L ⟨c.h, c.b.take x.1⟩).2) (fun x => c.b.length - x.1) ((0, m1)) ⟨rfl, rfl, rfl, rfl, rfl, trivial⟩ (by repeat constructor) ⟨by omega, hm1⟩ ?_
 intro ⟨k, m2⟩ ⟨hk, hm2⟩
 simp only at hk hm2 ⊢
 refine go_seq ?_
 refine go_region rfl ?_
 refine go_pure0 Tk rfl rfl rfl ?_
 refine go_nil ?_
 refine go_env [(0, _), (5, _), (18, _), (19, _), (20, _), (21, _)] ⟨rfl, rfl, rfl, rfl, rfl, rfl, trivial⟩ ?_
 refine go_seq ?_
 refine go_condD rfl ?_ ?_
 ·intro hq1
  iterate 4 first | refine go_skip ?_ | refine go_seq ?_ | refine go_block ?_
  refine go_elem_li (xs := c.b) (by repeat constructor) (k) (List.getElem?_eq_getElem (by omega)) (fun b0 o0 A0 c0 hA => ?_); cases hA
  refine go_len (xs := c.b[k].a.a) (by repeat constructor) (fun ll ml => ?_)
  refine go_region rfl ?_
  refine go_val0 rfl (idx_val Tk rfl rfl rfl rfl rfl (by omega)) rfl ?_
  refine go_val0 rfl (ldv Tk rfl rfl rfl) rfl ?_
  refine go_alloc Tk rfl rfl rfl (by rfl) rfl rfl (fun h => nomatch h) ?_
  intro b2
  refine go_store Tk rfl rfl rfl rfl rfl rfl (by repeat constructor) rfl rfl (by rfl) (fun h => nomatch h) ?_
  refine go_nil ?_
  refine go_env [(0, _), (5, _), (7, _), (18, _), (19, _), (20, _)] ⟨rfl, rfl, rfl, rfl, rfl, rfl, trivial⟩ ?_
  iterate 9 first | refine go_region rfl ?_ | refine go_pure0 Tk rfl rfl rfl ?_ | refine go_val0 rfl (ldv Tk rfl rfl rfl) rfl ?_
  refine go_call (safeFits b m2 _ hm2 c.b[k].a.p c.b[k].a.a.length) rfl rfl (by rfl) rfl (by repeat constructor) (by repeat constructor) (fun h => nomatch h) ?_
  rintro _ _ _ ⟨m3, hm3, rfl, rfl, rfl⟩
  refine go_pure0 Tk rfl rfl rfl ?_
  refine go_known 33 rfl ?_ ?_
  ·intro g1
   (try simp only [decide_eq_true_eq, decide_eq_false_iff_not, Bool.not_eq_true', Bool.not_eq_false', Bool.not_eq_eq_eq_not, Bool.not_true, Bool.not_false, Int.not_lt, Int.not_le, beq_iff_eq, beq_eq_false_iff_ne, ne_eq] at g1)
   iterate 3 refine go_pure0 Tk rfl rfl rfl ?_
   refine go_nil ?_
   refine go_re 5 (.bool (clauseL L ⟨c.h, c.b.take (k + 1)⟩).1) (by show some (Value.bool _) = some (Value.bool _); rw [clause_next (by omega)]; unfold stepL; simp only [g1, Bool.true_and, Bool.false_and]) ?_
   refine go_env [(0, _), (5, _), (18, _), (19, _), (20, _), (34, _)] ⟨rfl, rfl, rfl, rfl, rfl, rfl, trivial⟩ ?_
   refine go_blk ?_
   iterate 3 first | refine go_region rfl ?_ | refine go_pure0 Tk rfl rfl rfl ?_
   refine go_nil ?_
   refine go_i64 20 rfl (by omega) (by omega) ?_
   refine go_back (k + 1, m3) ⟨rfl, rfl, rfl, rfl, rfl, trivial⟩ (by repeat constructor) (by repeat constructor) ⟨by show k + 1 ≤ _; omega, by show Lens.Is m3 _; rw [clause_next (by omega)]; exact hm3⟩ (by show c.b.length - (k + 1) < c.b.length - k; omega)
  ·intro g1
   (try simp only [decide_eq_true_eq, decide_eq_false_iff_not, Bool.not_eq_true', Bool.not_eq_false', Bool.not_eq_eq_eq_not, Bool.not_true, Bool.not_false, Int.not_lt, Int.not_le, beq_iff_eq, beq_eq_false_iff_ne, ne_eq] at g1)
   iterate 3 first | refine go_skip0 rfl rfl ?_ | refine go_pure0 Tk rfl rfl rfl ?_
   refine go_nil ?_
   refine go_re 5 (.bool (clauseL L ⟨c.h, c.b.take (k + 1)⟩).1) (by show some (Value.bool _) = some (Value.bool _); rw [clause_next (by omega)]; unfold stepL; simp only [g1, Bool.true_and, Bool.false_and]) ?_
   refine go_env [(0, _), (5, _), (18, _), (19, _), (20, _), (34, _)] ⟨rfl, rfl, rfl, rfl, rfl, rfl, trivial⟩ ?_
   refine go_blk ?_
   iterate 3 first | refine go_region rfl ?_ | refine go_pure0 Tk rfl rfl rfl ?_
   refine go_nil ?_
   refine go_i64 20 rfl (by omega) (by omega) ?_
   refine go_back (k + 1, m3) ⟨rfl, rfl, rfl, rfl, rfl, trivial⟩ (by repeat constructor) (by repeat constructor) ⟨by show k + 1 ≤ _; omega, by show Lens.Is m3 _; rw [clause_next (by omega)]; exact hm3⟩ (by show c.b.length - (k + 1) < c.b.length - k; omega)
 ·intro hq1
  iterate 5 first | refine go_exit rfl ?_ | refine go_seq ?_ | refine go_region rfl ?_ | refine go_pure0 Tk rfl rfl rfl ?_
  refine go_nil ?_
  refine go_env [(4, _)] ⟨rfl, trivial⟩ ?_
  refine go_ret ⟨rfl, rfl⟩ _ _ (res1 (by rfl) (.tmp rfl)) ⟨m2, by rw [List.take_of_length_le (by omega)] at hm2; exact hm2, by rw [List.take_of_length_le (by omega)], rfl, rfl⟩ (by repeat constructor) (by repeat constructor)

end Go.Proofs.Ytkhddfknpegpmaa.SL

/- Contracts of functions of the program (Safee): what each call comes to, for the laws' proofs. -/
set_option linter.unusedVariables false
set_option linter.unusedSimpArgs false
namespace Go.Proofs.Ytkhddfknpegpmaa.SL
open Go 

set_option maxHeartbeats 2000000 in
set_option maxRecDepth 20000 in
theorem safeLiterals (c : Cl) (CA : Option Addr) (cc : Nat) (CB : Option Addr) (cd : Nat) (nt : Bool) :
    Spec Try.prog 72 #[.agg #[.int .u32 c.h.p, .slice CA c.h.a.length cc, .slice CB c.b.length cd], .bool nt] [] [] (fun v Ps' Os' => ∃ bC bN, v = .func (.func 87) #[] #[.pointer (some ⟨bC, 0, none⟩), .pointer (some ⟨bN, 0, none⟩)] ∧ Ps' = [cl bC 0 [.int .u32 c.h.p, .slice CA c.h.a.length cc, .slice CB c.b.length cd], cl bN 0 [.bool nt]] ∧ Os' = []) := by
 refine spec_of (fn := Try.f72) (args := [.agg #[.int .u32 c.h.p, .slice CA c.h.a.length cc, .slice CB c.b.length cd], .bool nt]) 6 Try.func72 rfl (by kernel_rfl) Try.ntmps72 (Nat.le_of_ble_eq_true rfl) (fun w0 hp0 hf0 => ?_)
 refine go_seq ?_
 refine go_region rfl ?_
 refine go_box Tk rfl rfl rfl rfl (by rfl) rfl rfl (fun h => nomatch h) ?_
 intro bC
 refine go_box Tk rfl rfl rfl rfl (by rfl) rfl rfl (fun h => nomatch h) ?_
 intro bN
 refine go_freeze_pt (b := bC) (by repeat constructor) ?_
 refine go_freeze_pt (b := bN) (by repeat constructor) ?_
 refine go_pure0 Tk rfl rfl rfl ?_
 refine go_nil ?_
 refine go_env [(2, _), (3, _)] ⟨rfl, rfl, trivial⟩ ?_
 iterate 4 first | refine go_seq ?_ | refine go_region rfl ?_ | refine go_pure0 Tk rfl rfl rfl ?_
 refine go_nil ?_
 refine go_env [(4, _)] ⟨rfl, trivial⟩ ?_
 refine go_ret ⟨rfl, rfl⟩ _ _ (res1 (by rfl) (.tmp rfl)) ⟨bC, bN, rfl, rfl, rfl⟩ (by repeat constructor) (by repeat constructor)

set_option maxHeartbeats 2000000 in
set_option maxRecDepth 20000 in
theorem literals1 (ly bC bN : Nat) (R : List Ax → OA) (hY : Yld Try.prog ly encA pxA R) (c : Cl) (CA : Option Addr) (cc : Nat) (CB : Option Addr) (cd : Nat) (nt : Bool) (hb : ∀ l ∈ c.b, l.a.a.length ≤ 12) :
    Spec Try.prog 87 #[.func (.yield ly) #[] #[], .pointer (some ⟨bC, 0, none⟩), .pointer (some ⟨bN, 0, none⟩)] [cl bC 0 [.int .u32 c.h.p, .slice CA c.h.a.length cc, .slice CB c.b.length cd], cl bN 0 [.bool nt], sl tTm CA cc c.h.a, sl tLi CB cd c.b] [R []] (fun v Ps' Os' => ∃ xs : List Ax, xs.map (·.1) = litsOf c.b nt ∧ Ps' = [] ∧ Os' = [R xs]) := by
 refine spec_of (fn := Try.f87) (args := [.func (.yield ly) #[] #[], .pointer (some ⟨bC, 0, none⟩), .pointer (some ⟨bN, 0, none⟩)]) 25 Try.func87 rfl (by kernel_rfl) Try.ntmps87 (Nat.le_of_ble_eq_true rfl) (fun w0 hp0 hf0 => ?_)
 refine go_seq ?_
 refine go_len (xs := c.b) (by repeat constructor) (fun l0 m0 => ?_)
 iterate 5 first | refine go_region rfl ?_ | refine go_pure0 Tk rfl rfl rfl ?_ | refine go_val0 rfl (ldv Tk rfl rfl rfl) rfl ?_
 refine go_nil ?_
 refine go_env [(0, _), (2, _), (7, _), (8, _), (9, _)] ⟨rfl, rfl, rfl, rfl, rfl, trivial⟩ ?_
 refine go_block ?_
 refine go_loop' (X := Nat × List Ax) (fun x => [(9, .int .i64 (x.1 : Int))]) [(0, _), (2, _), (7, _), (8, _)] (fun x => [R x.2]) (fun x => x.1 ≤ c.b.length ∧ x.2.map (·.1) = litsOf (c.b.take x.1) nt) (fun x => c.b.length - x.1) ((0, [])) ⟨rfl, rfl, rfl, rfl, rfl, trivial⟩ (by repeat constructor) ⟨by omega, rfl⟩ ?_
 intro ⟨k, D⟩ ⟨hk, hD⟩
 simp only at hk hD ⊢
 refine go_seq ?_
 refine go_region rfl ?_
 refine go_pure0 Tk rfl rfl rfl ?_
 refine go_nil ?_
 refine go_env [(0, _), (2, _), (7, _), (8, _), (9, _), (10, _)] ⟨rfl, rfl, rfl, rfl, rfl, rfl, trivial⟩ ?_
 refine go_seq ?_
 refine go_condD rfl ?_ ?_
 ·intro hq1
  iterate 4 first | refine go_skip ?_ | refine go_seq ?_ | refine go_block ?_
  refine go_elem_li (xs := c.b) (by repeat constructor) (k) (List.getElem?_eq_getElem (by omega)) (fun b0 o0 A0 c0 hA => ?_); cases hA
  refine go_ent (PA.and (c.b[k].a.a.length ≤ 12) (sl tTm A0 c0 c.b[k].a.a)) (fun hh a => ⟨hb _ (List.getElem_mem _), a (sl tTm A0 c0 c.b[k].a.a) (by repeat constructor)⟩) ?_
  refine go_region rfl ?_
  refine go_val0 rfl (idx_val Tk rfl rfl rfl rfl rfl (by omega)) rfl ?_
  refine go_val0 rfl (ldv Tk rfl rfl rfl) rfl ?_
  refine go_alloc Tk rfl rfl rfl (by rfl) rfl rfl (fun h => nomatch h) ?_
  intro b1
  refine go_store Tk rfl rfl rfl rfl rfl rfl (by repeat constructor) rfl rfl (by rfl) (fun h => nomatch h) ?_
  refine go_nil ?_
  refine go_env [(0, _), (2, _), (5, _), (7, _), (8, _), (9, _)] ⟨rfl, rfl, rfl, rfl, rfl, rfl, trivial⟩ ?_
  refine go_seq ?_
  refine go_regionY [false, false, false, false, false, false, false, false, true] rfl ?_
  iterate 5 first | refine go_pure0 Tk rfl rfl rfl ?_ | refine go_val0 rfl (ldv Tk rfl rfl rfl) rfl ?_
  refine go_known 17 rfl ?_ ?_
  ·intro g1
   (try simp only [decide_eq_true_eq, decide_eq_false_iff_not, Bool.not_eq_true', Bool.not_eq_false', Bool.not_eq_eq_eq_not, Bool.not_true, Bool.not_false, Int.not_lt, Int.not_le, beq_iff_eq, beq_eq_false_iff_ne, ne_eq] at g1)
   iterate 3 first | refine go_pure0 Tk rfl rfl rfl ?_ | refine go_val0 rfl (ldv Tk rfl rfl rfl) rfl ?_
   refine go_yield hY (D) ((c.b[k].a, A0, c0)) rfl rfl rfl rfl rfl (by repeat constructor) (by repeat constructor) ?_
   iterate 2 refine go_pure0 Tk rfl rfl rfl ?_
   refine go_nil ?_
   refine go_env [(0, _), (2, _), (7, _), (8, _), (9, _), (18, _), (19, _), (20, _), (21, _), (22, _), (23, _)] ⟨rfl, rfl, rfl, rfl, rfl, rfl, rfl, rfl, rfl, rfl, rfl, trivial⟩ ?_
   refine go_cond_f rfl ?_
   refine go_skip ?_
   refine go_blk ?_
   iterate 3 first | refine go_region rfl ?_ | refine go_pure0 Tk rfl rfl rfl ?_
   refine go_nil ?_
   refine go_i64 9 rfl (by omega) (by omega) ?_
   refine go_back (k + 1, _) ⟨rfl, rfl, rfl, rfl, rfl, trivial⟩ (by repeat constructor) (by repeat constructor) ⟨by show k + 1 ≤ _; omega, by show List.map _ (D ++ [_]) = _; rw [lits_yes (by omega) g1, List.map_append, hD]; rfl⟩ (by show c.b.length - (k + 1) < c.b.length - k; omega)
  ·intro g1
   (try simp only [decide_eq_true_eq, decide_eq_false_iff_not, Bool.not_eq_true', Bool.not_eq_false', Bool.not_eq_eq_eq_not, Bool.not_true, Bool.not_false, Int.not_lt, Int.not_le, beq_iff_eq, beq_eq_false_iff_ne, ne_eq] at g1)
   iterate 3 refine go_skip0 rfl rfl ?_
   refine go_skipY rfl rfl ?_
   refine go_skip0 rfl rfl ?_
   refine go_pure0 Tk rfl rfl rfl ?_
   refine go_nil ?_
   refine go_env [(0, _), (2, _), (7, _), (8, _), (9, _), (18, _), (19, _), (20, _), (21, _), (22, _), (23, _)] ⟨rfl, rfl, rfl, rfl, rfl, rfl, rfl, rfl, rfl, rfl, rfl, trivial⟩ ?_
   refine go_cond_f rfl ?_
   refine go_skip ?_
   refine go_blk ?_
   iterate 3 first | refine go_region rfl ?_ | refine go_pure0 Tk rfl rfl rfl ?_
   refine go_nil ?_
   refine go_i64 9 rfl (by omega) (by omega) ?_
   refine go_back (k + 1, D) ⟨rfl, rfl, rfl, rfl, rfl, trivial⟩ (by repeat constructor) (by repeat constructor) ⟨by show k + 1 ≤ _; omega, by show List.map _ D = _; rw [lits_no (by omega) g1]; exact hD⟩ (by show c.b.length - (k + 1) < c.b.length - k; omega)
 ·intro hq1
  refine go_exit rfl ?_
  refine go_end ⟨rfl, rfl⟩ _ _ (res0 (by rfl)) ⟨D, by rw [List.take_of_length_le (by omega)] at hD; exact hD, rfl, rfl⟩ (by repeat constructor) (by repeat constructor)

set_option maxHeartbeats 2000000 in
set_option maxRecDepth 20000 in
theorem literals1S (ly bC bN : Nat) (R St : List Ax → OA) (hY : YldS Try.prog ly encA pxA R St) (c : Cl) (CA : Option Addr) (cc : Nat) (CB : Option Addr) (cd : Nat) (nt : Bool) (hb : ∀ l ∈ c.b, l.a.a.length ≤ 12) :
    Spec Try.prog 87 #[.func (.yield ly) #[] #[], .pointer (some ⟨bC, 0, none⟩), .pointer (some ⟨bN, 0, none⟩)] [cl bC 0 [.int .u32 c.h.p, .slice CA c.h.a.length cc, .slice CB c.b.length cd], cl bN 0 [.bool nt], sl tTm CA cc c.h.a, sl tLi CB cd c.b] [R []] (fun v Ps' Os' => Ps' = [] ∧ ((∃ xs : List Ax, xs.map (·.1) = litsOf c.b nt ∧ Os' = [R xs]) ∨ (∃ xs : List Ax, (∀ y ∈ xs, y.1 ∈ litsOf c.b nt) ∧ Os' = [St xs]))) := by
 refine spec_of (fn := Try.f87) (args := [.func (.yield ly) #[] #[], .pointer (some ⟨bC, 0, none⟩), .pointer (some ⟨bN, 0, none⟩)]) 25 Try.func87 rfl (by kernel_rfl) Try.ntmps87 (Nat.le_of_ble_eq_true rfl) (fun w0 hp0 hf0 => ?_)
 refine go_seq ?_
 refine go_len (xs := c.b) (by repeat constructor) (fun l0 m0 => ?_)
 iterate 5 first | refine go_region rfl ?_ | refine go_pure0 Tk rfl rfl rfl ?_ | refine go_val0 rfl (ldv Tk rfl rfl rfl) rfl ?_
 refine go_nil ?_
 refine go_env [(0, _), (2, _), (7, _), (8, _), (9, _)] ⟨rfl, rfl, rfl, rfl, rfl, trivial⟩ ?_
 refine go_block ?_
 refine go_loop' (X := Nat × List Ax) (fun x => [(9, .int .i64 (x.1 : Int))]) [(0, _), (2, _), (7, _), (8, _)] (fun x => [R x.2]) (fun x => x.1 ≤ c.b.length ∧ x.2.map (·.1) = litsOf (c.b.take x.1) nt) (fun x => c.b.length - x.1) ((0, [])) ⟨rfl, rfl, rfl, rfl, rfl, trivial⟩ (by repeat constructor) ⟨by omega, rfl⟩ ?_
 intro ⟨k, D⟩ ⟨hk, hD⟩
 simp only at hk hD ⊢
 refine go_seq ?_
 refine go_region rfl ?_
 refine go_pure0 Tk rfl rfl rfl ?_
 refine go_nil ?_
 refine go_env [(0, _), (2, _), (7, _), (8, _), (9, _), (10, _)] ⟨rfl, rfl, rfl, rfl, rfl, rfl, trivial⟩ ?_
 refine go_seq ?_
 refine go_condD rfl ?_ ?_
 ·intro hq1
  iterate 4 first | refine go_skip ?_ | refine go_seq ?_ | refine go_block ?_
  refine go_elem_li (xs := c.b) (by repeat constructor) (k) (List.getElem?_eq_getElem (by omega)) (fun b0 o0 A0 c0 hA => ?_); cases hA
  refine go_ent (PA.and (c.b[k].a.a.length ≤ 12) (sl tTm A0 c0 c.b[k].a.a)) (fun hh a => ⟨hb _ (List.getElem_mem _), a (sl tTm A0 c0 c.b[k].a.a) (by repeat constructor)⟩) ?_
  refine go_region rfl ?_
  refine go_val0 rfl (idx_val Tk rfl rfl rfl rfl rfl (by omega)) rfl ?_
  refine go_val0 rfl (ldv Tk rfl rfl rfl) rfl ?_
  refine go_alloc Tk rfl rfl rfl (by rfl) rfl rfl (fun h => nomatch h) ?_
  intro b1
  refine go_store Tk rfl rfl rfl rfl rfl rfl (by repeat constructor) rfl rfl (by rfl) (fun h => nomatch h) ?_
  refine go_nil ?_
  refine go_env [(0, _), (2, _), (5, _), (7, _), (8, _), (9, _)] ⟨rfl, rfl, rfl, rfl, rfl, rfl, trivial⟩ ?_
  refine go_seq ?_
  refine go_regionY [false, false, false, false, false, false, false, false, true] rfl ?_
  iterate 5 first | refine go_pure0 Tk rfl rfl rfl ?_ | refine go_val0 rfl (ldv Tk rfl rfl rfl) rfl ?_
  refine go_known 17 rfl ?_ ?_
  ·intro g1
   (try simp only [decide_eq_true_eq, decide_eq_false_iff_not, Bool.not_eq_true', Bool.not_eq_false', Bool.not_eq_eq_eq_not, Bool.not_true, Bool.not_false, Int.not_lt, Int.not_le, beq_iff_eq, beq_eq_false_iff_ne, ne_eq] at g1)
   iterate 3 first | refine go_pure0 Tk rfl rfl rfl ?_ | refine go_val0 rfl (ldv Tk rfl rfl rfl) rfl ?_
   refine go_yield2 hY (D) ((c.b[k].a, A0, c0)) rfl rfl rfl rfl rfl (by repeat constructor) (by repeat constructor) ?_ ?_
   ·skip
    iterate 2 refine go_pure0 Tk rfl rfl rfl ?_
    refine go_nil ?_
    refine go_env [(0, _), (2, _), (7, _), (8, _), (9, _), (18, _), (19, _), (20, _), (21, _), (22, _), (23, _)] ⟨rfl, rfl, rfl, rfl, rfl, rfl, rfl, rfl, rfl, rfl, rfl, trivial⟩ ?_
    refine go_cond_f rfl ?_
    refine go_skip ?_
    refine go_blk ?_
    iterate 3 first | refine go_region rfl ?_ | refine go_pure0 Tk rfl rfl rfl ?_
    refine go_nil ?_
    refine go_i64 9 rfl (by omega) (by omega) ?_
    refine go_back (k + 1, _) ⟨rfl, rfl, rfl, rfl, rfl, trivial⟩ (by repeat constructor) (by repeat constructor) ⟨by show k + 1 ≤ _; omega, by show List.map _ (D ++ [_]) = _; rw [lits_yes (by omega) g1, List.map_append, hD]; rfl⟩ (by show c.b.length - (k + 1) < c.b.length - k; omega)
   ·skip
    iterate 2 refine go_pure0 Tk rfl rfl rfl ?_
    refine go_nil ?_
    refine go_env [(0, _), (2, _), (7, _), (8, _), (9, _), (18, _), (19, _), (20, _), (21, _), (22, _), (23, _)] ⟨rfl, rfl, rfl, rfl, rfl, rfl, rfl, rfl, rfl, rfl, rfl, trivial⟩ ?_
    refine go_cond_t rfl ?_
    refine go_ret ⟨rfl, rfl⟩ _ _ (res0 (by rfl)) ⟨rfl, .inr ⟨D ++ [((c.b[k].a, A0, c0) : Ax)], fun y hy => lits_mem (k := k + 1) (by rw [lits_yes (by omega) g1, ← hD]; have := List.mem_map_of_mem (f := fun z : Ax => z.1) hy; rw [List.map_append] at this; exact this), rfl⟩⟩ (by repeat constructor) (by repeat constructor)
  ·intro g1
   (try simp only [decide_eq_true_eq, decide_eq_false_iff_not, Bool.not_eq_true', Bool.not_eq_false', Bool.not_eq_eq_eq_not, Bool.not_true, Bool.not_false, Int.not_lt, Int.not_le, beq_iff_eq, beq_eq_false_iff_ne, ne_eq] at g1)
   iterate 3 refine go_skip0 rfl rfl ?_
   refine go_skipY rfl rfl ?_
   refine go_skip0 rfl rfl ?_
   refine go_pure0 Tk rfl rfl rfl ?_
   refine go_nil ?_
   refine go_env [(0, _), (2, _), (7, _), (8, _), (9, _), (18, _), (19, _), (20, _), (21, _), (22, _), (23, _)] ⟨rfl, rfl, rfl, rfl, rfl, rfl, rfl, rfl, rfl, rfl, rfl, trivial⟩ ?_
   refine go_cond_f rfl ?_
   refine go_skip ?_
   refine go_blk ?_
   iterate 3 first | refine go_region rfl ?_ | refine go_pure0 Tk rfl rfl rfl ?_
   refine go_nil ?_
   refine go_i64 9 rfl (by omega) (by omega) ?_
   refine go_back (k + 1, D) ⟨rfl, rfl, rfl, rfl, rfl, trivial⟩ (by repeat constructor) (by repeat constructor) ⟨by show k + 1 ≤ _; omega, by show List.map _ D = _; rw [lits_no (by omega) g1]; exact hD⟩ (by show c.b.length - (k + 1) < c.b.length - k; omega)
 ·intro hq1
  refine go_exit rfl ?_
  refine go_end ⟨rfl, rfl⟩ _ _ (res0 (by rfl)) ⟨rfl, .inl ⟨D, by rw [List.take_of_length_le (by omega)] at hD; exact hD, rfl⟩⟩ (by repeat constructor) (by repeat constructor)

end Go.Proofs.Ytkhddfknpegpmaa.SL

/- Contracts of functions of the program (Safef): what each call comes to, for the laws' proofs. -/
set_option linter.unusedVariables false
set_option linter.unusedSimpArgs false
namespace Go.Proofs.Ytkhddfknpegpmaa.SL
open Go 

def onesO (b : Nat) (s : List Int) : OA := OA.ex fun m => OA.and (Ones m s) (OA.all [mapO b .u32 m])
theorem go_ones {C : Ctx} {k : List It} {E : Env} {Ps : List PA} {Os : List OA} {b : Nat} {s : List Int} {rr : List OA} (h : Rem (onesO b s) Os rr) (g : ∀ m, Ones m s → Go C k E Ps ([mapO b .u32 m] ++ rr)) : Go C k E Ps Os :=
  go_oex h fun m => go_oand .here fun hm => go_oall .here (g m hm)
def okA (st : List Int) (a : Am) : Bool := (vars a).all fun v => decide (v ∈ st)
def goodO (bm bR : Nat) (st : List Int) (xs : List Ax) : OA := OA.and (∀ y ∈ xs, okA st y.1 = true) (OA.all [onesO bm st, pt bR 4 [.bool false]])
def badO (bm bR : Nat) (st : List Int) (xs : List Ax) : OA := OA.and (∃ y ∈ xs, okA st y.1 = false) (OA.all [onesO bm st, pt bR 4 [.bool false]])
theorem go_good {C : Ctx} {k : List It} {E : Env} {Ps : List PA} {Os : List OA} {bm bR : Nat} {st : List Int} {xs : List Ax} {rr : List OA} (h : Rem (goodO bm bR st xs) Os rr) (g : (∀ y ∈ xs, okA st y.1 = true) → Go C k E Ps ([onesO bm st, pt bR 4 [.bool false]] ++ rr)) : Go C k E Ps Os :=
  go_oand h fun hm => go_oall .here (g hm)
theorem go_bad {C : Ctx} {k : List It} {E : Env} {Ps : List PA} {Os : List OA} {bm bR : Nat} {st : List Int} {xs : List Ax} {rr : List OA} (h : Rem (badO bm bR st xs) Os rr) (g : (∃ y ∈ xs, okA st y.1 = false) → Go C k E Ps ([onesO bm st, pt bR 4 [.bool false]] ++ rr)) : Go C k E Ps Os :=
  go_oand h fun hm => go_oall .here (g hm)
theorem ones_more {m : List (Int × Value)} {pre : List Ax} {x : Ax} {vs : List Int} (h : Ones m ((pre.flatMap fun y => vars y.1) ++ vs)) (hv : ∀ z, z ∈ vs ↔ z ∈ vars x.1) : Ones m ((pre ++ [x]).flatMap fun y => vars y.1) :=
  h.same fun z => by rw [List.flatMap_append, List.mem_append, List.mem_append, hv]; simp
theorem held_eq {c : Cl} {xs ys : List Ax} (h1 : xs.map (·.1) = litsOf c.b false) (h2 : ys.map (·.1) = litsOf c.b true) : heldC c = ((ys.all fun y => okA (xs.flatMap fun y => vars y.1) y.1) && okA (xs.flatMap fun y => vars y.1) c.h) := by
  have e1 : (xs.flatMap fun y => vars y.1) = heldBy c := by
    unfold heldBy
    rw [show (xs.flatMap fun y => vars y.1) = (xs.map (·.1)).flatMap vars from by rw [List.flatMap_map], h1]
    unfold litsOf
    rw [List.flatMap_map]
    congr 2
    funext l; cases l.no <;> rfl
  rw [e1]
  unfold heldC okA
  congr 1
  have : (ys.all fun y => (vars y.1).all fun v => decide (v ∈ heldBy c)) = (ys.map (·.1)).all fun a => (vars a).all fun v => decide (v ∈ heldBy c) := by rw [List.all_map]; rfl
  rw [this, h2]
  unfold litsOf
  rw [List.all_map]
  congr 2
  funext l; cases l.no <;> rfl
theorem held_bad {c : Cl} {xs ys : List Ax} (h1 : xs.map (·.1) = litsOf c.b false) (h2 : ∀ y ∈ ys, y.1 ∈ litsOf c.b true) (h3 : ∃ y ∈ ys, okA (xs.flatMap fun y => vars y.1) y.1 = false) : heldC c = false := by
  have := held_eq (c := c) (ys := (litsOf c.b true).map fun a => (a, none, 0)) h1 (by rw [List.map_map]; exact List.map_id _)
  rw [this, Bool.and_eq_false_iff]
  left
  rw [List.all_eq_false]
  obtain ⟨y, hy, e⟩ := h3
  exact ⟨(y.1, none, 0), List.mem_map.2 ⟨y.1, h2 y hy, rfl⟩, by rw [e]; simp⟩

set_option maxHeartbeats 2000000 in
set_option maxRecDepth 20000 in
theorem safeHeld (c : Cl) (CA : Option Addr) (cc : Nat) (CB : Option Addr) (cd : Nat) (hh : c.h.a.length ≤ 12) (hb : ∀ l ∈ c.b, l.a.a.length ≤ 12) :
    Spec Try.prog 58 #[.agg #[.int .u32 c.h.p, .slice CA c.h.a.length cc, .slice CB c.b.length cd]] [sl tTm CA cc c.h.a, sl tLi CB cd c.b] [] (fun v Ps' Os' => v = .bool (heldC c) ∧ Ps' = [] ∧ Os' = []) := by
 refine spec_of (fn := Try.f58) (args := [.agg #[.int .u32 c.h.p, .slice CA c.h.a.length cc, .slice CB c.b.length cd]]) 35 Try.func58 rfl (by kernel_rfl) Try.ntmps58 (Nat.le_of_ble_eq_true rfl) (fun w0 hp0 hf0 => ?_)
 refine go_seq ?_
 refine go_region rfl ?_
 refine go_box Tk rfl rfl rfl rfl (by rfl) rfl rfl (fun h => nomatch h) ?_
 intro bC0
 refine go_freeze_pt (b := bC0) (by repeat constructor) ?_
 refine go_alloc Tk rfl rfl rfl (by rfl) rfl rfl (fun h => nomatch h) ?_
 intro bR
 refine go_nil ?_
 refine go_env [(1, _), (2, _)] ⟨rfl, rfl, trivial⟩ ?_
 refine go_seq ?_
 refine go_region rfl ?_
 refine go_makemap (kk := .u32) rfl rfl rfl (fun h => nomatch h) ?_
 intro bm
 refine go_alloc Tk rfl rfl rfl (by rfl) rfl rfl (fun h => nomatch h) ?_
 intro bM
 refine go_store Tk rfl rfl rfl rfl rfl rfl (by repeat constructor) rfl rfl (by rfl) (fun h => nomatch h) ?_
 refine go_nil ?_
 refine go_freeze_pt (b := bM) (by repeat constructor) ?_
 refine go_fold [mapO bm .u32 []] (onesO bm []) (by repeat constructor) (fun _ _ q => ⟨[], Ones.nil, q⟩) ?_
 refine go_env [(1, _), (2, _), (3, _)] ⟨rfl, rfl, rfl, trivial⟩ ?_
 refine go_seq ?_
 refine go_seq ?_
 refine go_region rfl ?_
 refine go_val0 rfl (ldv Tk rfl rfl rfl) rfl ?_
 refine go_call (safeLiterals c CA cc CB cd false) rfl rfl (by rfl) rfl (by repeat constructor) (by repeat constructor) (fun h => nomatch h) ?_
 rintro _ _ _ ⟨bC, bN, rfl, rfl, rfl⟩
 refine go_nil ?_
 refine go_env [(1, _), (2, _), (3, _), (11, _)] ⟨rfl, rfl, rfl, rfl, trivial⟩ ?_
 refine go_block ?_
 refine go_range (α := Ax) (enc := encA) (Px := pxA) rfl rfl rfl (fun D => [onesO bm (D.flatMap fun y => vars y.1)]) ([]) ([]) (by repeat constructor) (by repeat constructor) ([cl bC 0 [.int .u32 c.h.p, .slice CA c.h.a.length cc, .slice CB c.b.length cd], cl bN 0 [.bool false], sl tTm CA cc c.h.a, sl tLi CB cd c.b]) (by repeat constructor) (fun xs => xs.map (·.1) = litsOf c.b false) (fun ly R hY => literals1 ly bC bN R hY c CA cc CB cd false hb) (X := Nat) (fun x => [(4, .pointer (some ⟨x, 0, none⟩))]) [(2, .pointer (some ⟨bR, 0, none⟩)), (3, .pointer (some ⟨bM, 0, none⟩))] (fun pre x y => [pt y 25 [.int .u32 x.1.p, .slice x.2.1 x.1.a.length x.2.2], onesO bm (pre.flatMap fun y => vars y.1)]) (fun _ _ _ => True) (fun ly pre x w0' hp0' hf0' => ?_) (fun ly pre x y _ w0' hp0' hf0' => ?_) (fun D xs hdj hxs => ?_)
 ·skip
  refine go_region rfl ?_
  refine go_alloc Tk rfl rfl rfl (by rfl) rfl rfl (fun h => nomatch h) ?_
  intro b1
  refine go_store Tk rfl rfl rfl rfl rfl rfl (by repeat constructor) rfl rfl (by rfl) (fun h => nomatch h) ?_
  refine go_nil ?_
  refine go_back _ ⟨rfl, rfl, rfl, trivial⟩ (by repeat constructor) (by repeat constructor) trivial (by decide)
 ·skip
  refine go_pand (fun hxa => ?_)
  refine go_freeze_pt (b := y) (by repeat constructor) ?_
  refine go_ones (b := bm) (by repeat constructor) (fun m hm => ?_)
  refine go_block ?_
  refine go_seq ?_
  refine go_region rfl ?_
  refine go_val0 rfl (ldv Tk rfl rfl rfl) rfl ?_
  refine go_call (varsA x.1 x.2.1 x.2.2 hxa) rfl rfl (by rfl) rfl (by repeat constructor) (by repeat constructor) (fun h => nomatch h) ?_
  rintro _ _ _ ⟨A1, c1, vs, rfl, hvs, hvl, rfl, rfl⟩
  iterate 2 refine go_pure0 Tk rfl rfl rfl ?_
  refine go_nil ?_
  refine go_env [(3, _), (14, _), (15, _), (16, _)] ⟨rfl, rfl, rfl, rfl, trivial⟩ ?_
  refine go_block ?_
  refine go_loop' (X := Nat × List (Int × Value)) (fun x => [(16, .int .i64 (x.1 : Int))]) [(3, _), (14, _), (15, _)] (fun x => [mapO bm .u32 x.2]) (fun z => z.1 ≤ vs.length ∧ Ones z.2 ((pre.flatMap fun y => vars y.1) ++ vs.take z.1)) (fun x => vs.length - x.1) ((0, m)) ⟨rfl, rfl, rfl, rfl, trivial⟩ (by repeat constructor) ⟨by omega, by simpa using hm⟩ ?_
  intro ⟨k, m2⟩ ⟨hk, hm2⟩
  simp only at hk hm2 ⊢
  refine go_seq ?_
  refine go_region rfl ?_
  refine go_pure0 Tk rfl rfl rfl ?_
  refine go_nil ?_
  refine go_env [(3, _), (14, _), (15, _), (16, _), (17, _)] ⟨rfl, rfl, rfl, rfl, rfl, trivial⟩ ?_
  refine go_seq ?_
  refine go_condD rfl ?_ ?_
  ·intro hq1
   iterate 4 first | refine go_skip ?_ | refine go_seq ?_ | refine go_block ?_
   refine go_elem_int (xs := vs) (by repeat constructor) (k) (List.getElem?_eq_getElem (by omega)) (fun b o hA => ?_); cases hA
   refine go_region rfl ?_
   refine go_val0 rfl (idx_val Tk rfl rfl rfl rfl rfl (by omega)) rfl ?_
   refine go_val0 rfl (ldv Tk rfl rfl rfl) rfl ?_
   refine go_pure0 Tk rfl rfl rfl ?_
   refine go_nil ?_
   refine go_env [(3, _), (6, _), (14, _), (15, _), (16, _)] ⟨rfl, rfl, rfl, rfl, rfl, trivial⟩ ?_
   refine go_region rfl ?_
   refine go_val0 rfl (ldv Tk rfl rfl rfl) rfl ?_
   refine go_pure0 Tk rfl rfl rfl ?_
   refine go_mset (m := m2) Tk rfl rfl rfl rfl rfl rfl rfl rfl (by repeat constructor) (fun h => nomatch h) ?_
   refine go_nil ?_
   refine go_env [(3, _), (14, _), (15, _), (16, _)] ⟨rfl, rfl, rfl, rfl, trivial⟩ ?_
   refine go_blk ?_
   iterate 3 first | refine go_region rfl ?_ | refine go_pure0 Tk rfl rfl rfl ?_
   refine go_nil ?_
   refine go_i64 16 rfl (by omega) (by omega) ?_
   refine go_back (k + 1, _) ⟨rfl, rfl, rfl, rfl, trivial⟩ (by repeat constructor) (by repeat constructor) ⟨by show k + 1 ≤ _; omega, (hm2.set vs[k]).same (fun z => by rw [List.mem_cons, List.mem_append, List.mem_append, mem_take_succ (by omega)]; constructor <;> intro h <;> rcases h with h | h | h <;> simp [h])⟩ (by show vs.length - (k + 1) < vs.length - k; omega)
  ·intro hq1
   refine go_exit rfl ?_
   refine go_blk ?_
   refine go_fold [mapO bm .u32 m2] (onesO bm ((pre ++ [x]).flatMap fun y => vars y.1)) (by repeat constructor) (fun _ _ q => ⟨m2, ones_more (by rw [List.take_of_length_le (by omega)] at hm2; exact hm2) hvs, q⟩) ?_
   refine go_back () trivial (by repeat constructor) (by repeat constructor) trivial (by decide)
 refine go_blk ?_
 refine go_seq ?_
 refine go_region rfl ?_
 refine go_pure0 Tk rfl rfl rfl ?_
 refine go_alloc Tk rfl rfl rfl (by rfl) rfl rfl (fun h => nomatch h) ?_
 intro bF
 refine go_store Tk rfl rfl rfl rfl rfl rfl (by repeat constructor) rfl rfl (by rfl) (fun h => nomatch h) ?_
 refine go_nil ?_
 refine go_freeze_pt (b := bF) (by repeat constructor) ?_
 refine go_env [(1, _), (2, _), (7, _)] ⟨rfl, rfl, rfl, trivial⟩ ?_
 refine go_seq ?_
 refine go_seq ?_
 refine go_region rfl ?_
 refine go_val0 rfl (ldv Tk rfl rfl rfl) rfl ?_
 refine go_call (safeLiterals c CA cc CB cd true) rfl rfl (by rfl) rfl (by repeat constructor) (by repeat constructor) (fun h => nomatch h) ?_
 rintro _ _ _ ⟨bC2, bN2, rfl, rfl, rfl⟩
 refine go_fold [onesO bm (xs.flatMap fun y => vars y.1), pt bR 4 [.bool false]] (goodO bm bR (xs.flatMap fun y => vars y.1) []) (by repeat constructor) (fun _ _ q => ⟨(fun y h => nomatch h), q⟩) ?_
 refine go_nil ?_
 refine go_env [(1, _), (2, _), (7, _), (25, _)] ⟨rfl, rfl, rfl, rfl, trivial⟩ ?_
 refine go_block ?_
 refine go_rangeS (α := Ax) (enc := encA) (Px := pxA) rfl rfl rfl (fun D => [goodO bm bR (xs.flatMap fun y => vars y.1) D]) (fun D => [badO bm bR (xs.flatMap fun y => vars y.1) D]) ([]) ([]) (by repeat constructor) (by repeat constructor) ([cl bC2 0 [.int .u32 c.h.p, .slice CA c.h.a.length cc, .slice CB c.b.length cd], cl bN2 0 [.bool true], sl tTm CA cc c.h.a, sl tLi CB cd c.b]) (by repeat constructor) (fun ys => ys.map (·.1) = litsOf c.b true) (fun ys => ∀ y ∈ ys, y.1 ∈ litsOf c.b true) (fun ly R St hY => (literals1S ly bC2 bN2 R St hY c CA cc CB cd true hb)) (X := Nat) (fun x => [(8, .pointer (some ⟨x, 0, none⟩))]) [(2, .pointer (some ⟨bR, 0, none⟩)), (7, .pointer (some ⟨bF, 0, none⟩))] (fun pre x y => [pt y 25 [.int .u32 x.1.p, .slice x.2.1 x.1.a.length x.2.2], goodO bm bR (xs.flatMap fun y => vars y.1) pre]) (fun _ _ _ => True) (fun ly pre x w0' hp0' hf0' => ?_) (fun ly pre x y _ w0' hp0' hf0' => ?_) (fun D ys hdj2 hys => ?_) (fun D ys hdj2 hys => ?_)
 ·skip
  refine go_region rfl ?_
  refine go_alloc Tk rfl rfl rfl (by rfl) rfl rfl (fun h => nomatch h) ?_
  intro b2
  refine go_store Tk rfl rfl rfl rfl rfl rfl (by repeat constructor) rfl rfl (by rfl) (fun h => nomatch h) ?_
  refine go_nil ?_
  refine go_back _ ⟨rfl, rfl, rfl, trivial⟩ (by repeat constructor) (by repeat constructor) trivial (by decide)
 ·skip
  refine go_pand (fun hxa => ?_)
  refine go_freeze_pt (b := y) (by repeat constructor) ?_
  refine go_good (xs := pre) (by repeat constructor) (fun hpre => ?_)
  refine go_ones (b := bm) (by repeat constructor) (fun m hm => ?_)
  iterate 5 first | refine go_block ?_ | refine go_seq ?_ | refine go_region rfl ?_ | refine go_val0 rfl (ldv Tk rfl rfl rfl) rfl ?_
  refine go_call (safeHeld1 bM bm m _ hm x.1 x.2.1 x.2.2 hxa) rfl rfl (by rfl) rfl (by repeat constructor) (by repeat constructor) (fun h => nomatch h) ?_
  rintro _ _ _ ⟨rfl, rfl, rfl⟩
  refine go_pure0 Tk rfl rfl rfl ?_
  refine go_nil ?_
  refine go_env [(2, _), (30, _)] ⟨rfl, rfl, trivial⟩ ?_
  refine go_cond rfl ?_ ?_
  ·intro g1
   (try simp only [decide_eq_true_eq, decide_eq_false_iff_not, Bool.not_eq_true', Bool.not_eq_false', Bool.not_eq_eq_eq_not, Bool.not_true, Bool.not_false, Int.not_lt, Int.not_le, beq_iff_eq, beq_eq_false_iff_ne, ne_eq] at g1)
   refine go_seq ?_
   refine go_region rfl ?_
   refine go_store Tk rfl rfl rfl rfl rfl rfl (by repeat constructor) rfl rfl (by rfl) (fun h => nomatch h) ?_
   refine go_nil ?_
   refine go_env [(2, _)] ⟨rfl, trivial⟩ ?_
   refine go_fold [mapO bm .u32 m] (onesO bm (xs.flatMap fun y => vars y.1)) (by repeat constructor) (fun _ _ q => ⟨m, hm, q⟩) ?_
   refine go_fold [onesO bm (xs.flatMap fun y => vars y.1), pt bR 4 [.bool false]] (badO bm bR (xs.flatMap fun y => vars y.1) (pre ++ [x])) (by repeat constructor) (fun _ _ q => ⟨⟨x, List.mem_append_right _ (.head _), g1⟩, q⟩) ?_
   refine go_stop (by repeat constructor)
  ·intro g1
   (try simp only [decide_eq_true_eq, decide_eq_false_iff_not, Bool.not_eq_true', Bool.not_eq_false', Bool.not_eq_eq_eq_not, Bool.not_true, Bool.not_false, Int.not_lt, Int.not_le, beq_iff_eq, beq_eq_false_iff_ne, ne_eq] at g1)
   refine go_skip ?_
   refine go_blk ?_
   refine go_fold [mapO bm .u32 m] (onesO bm (xs.flatMap fun y => vars y.1)) (by repeat constructor) (fun _ _ q => ⟨m, hm, q⟩) ?_
   refine go_fold [onesO bm (xs.flatMap fun y => vars y.1), pt bR 4 [.bool false]] (goodO bm bR (xs.flatMap fun y => vars y.1) (pre ++ [x])) (by repeat constructor) (fun _ _ q => ⟨fun z hz => (List.mem_append.1 hz).elim (hpre z) (fun e => by rw [List.mem_singleton.1 e]; exact g1), q⟩) ?_
   refine go_back () trivial (by repeat constructor) (by repeat constructor) trivial (by decide)
 ·skip
  refine go_good (xs := ys) (by repeat constructor) (fun hall => ?_)
  refine go_ones (b := bm) (by repeat constructor) (fun m hm => ?_)
  refine go_blk ?_
  iterate 5 first | refine go_seq ?_ | refine go_region rfl ?_ | refine go_val0 rfl (ldv Tk rfl rfl rfl) rfl ?_ | refine go_pure0 Tk rfl rfl rfl ?_
  refine go_call (safeHeld1 bM bm m _ hm c.h CA cc hh) rfl rfl (by rfl) rfl (by repeat constructor) (by repeat constructor) (fun h => nomatch h) ?_
  rintro _ _ _ ⟨rfl, rfl, rfl⟩
  refine go_store Tk rfl rfl rfl rfl rfl rfl (by repeat constructor) rfl rfl (by rfl) (fun h => nomatch h) ?_
  refine go_nil ?_
  refine go_env [(2, _)] ⟨rfl, trivial⟩ ?_
  refine go_retN (.mark (.mark .base hdj) hdj2) ⟨rfl, rfl⟩ _ _ (res1 (by rfl) (.cell rfl (rdv Tk rfl))) ⟨congrArg Value.bool (by rw [held_eq hxs hys, show (ys.all fun y => okA (xs.flatMap fun y => vars y.1) y.1) = true from List.all_eq_true.2 hall, Bool.true_and]; rfl), rfl, rfl⟩ (by repeat constructor) (by repeat constructor)
 ·skip
  refine go_bad (xs := ys) (by repeat constructor) (fun hbad => ?_)
  refine go_retN (.mark (.mark .base hdj) hdj2) ⟨rfl, rfl⟩ _ _ (res1 (by rfl) (.cell rfl (rdv Tk rfl))) ⟨congrArg Value.bool (held_bad hxs hys hbad).symm, rfl, rfl⟩ (by repeat constructor) (by repeat constructor)

end Go.Proofs.Ytkhddfknpegpmaa.SL

/- Contracts of functions of the program (Safeg): what each call comes to, for the laws' proofs. -/
set_option linter.unusedVariables false
set_option linter.unusedSimpArgs false
namespace Go.Proofs.Ytkhddfknpegpmaa.SL
open Go 

set_option maxHeartbeats 2000000 in
set_option maxRecDepth 20000 in
theorem safeRight (A : Option Addr) (c : Nat) (l : List Cl) :
    Spec Try.prog 47 #[.slice A l.length c] [sl tCl A c l] [] (fun v Ps' Os' => v = .tuple #[.int .i64 (rightC l).1, .int .i64 (rightC l).2] ∧ Ps' = [] ∧ Os' = []) := by
 refine spec_of (fn := Try.f47) (args := [.slice A l.length c]) 35 Try.func47 rfl (by kernel_rfl) Try.ntmps47 (Nat.le_of_ble_eq_true rfl) (fun w0 hp0 hf0 => ?_)
 iterate 4 first | refine go_seq ?_ | refine go_region rfl ?_ | refine go_pure0 Tk rfl rfl rfl ?_
 refine go_nil ?_
 refine go_env [(0, _)] ⟨rfl, trivial⟩ ?_
 iterate 2 refine go_seq ?_
 refine go_len (xs := l) (by repeat constructor) (fun l0 m0 => ?_)
 iterate 4 first | refine go_region rfl ?_ | refine go_pure0 Tk rfl rfl rfl ?_
 refine go_nil ?_
 refine go_env [(0, _), (9, _)] ⟨rfl, rfl, trivial⟩ ?_
 refine go_condD rfl ?_ ?_
 ·intro h1
  iterate 4 first | refine go_seq ?_ | refine go_region rfl ?_ | refine go_pure0 Tk rfl rfl rfl ?_
  refine go_nil ?_
  refine go_env [(2, _), (3, _)] ⟨rfl, rfl, trivial⟩ ?_
  refine go_ret ⟨rfl, rfl⟩ _ _ (res2 (by rfl) (.tmp rfl) (.tmp rfl)) ⟨by unfold rightC; rw [if_pos (by omega)], rfl, rfl⟩ (by repeat constructor) (by repeat constructor)
 ·intro h1
  refine go_skip ?_
  refine go_seq ?_
  refine go_region rfl ?_
  refine go_makemap (kk := .u32) rfl rfl rfl (by first | exact (fun _ _ _ => satA) | exact (fun h => nomatch h) | exact (fun h => nomatch (Eq.symm h).trans (show _ = false by kernel_rfl))) ?_
  intro bm
  refine go_pure0 Tk rfl rfl rfl ?_
  refine go_nil ?_
  refine go_env [(0, _), (4, _)] ⟨rfl, rfl, trivial⟩ ?_
  iterate 6 first | refine go_seq ?_ | refine go_region rfl ?_ | refine go_pure0 Tk rfl rfl rfl ?_
  refine go_nil ?_
  refine go_env [(4, _), (11, _), (12, _), (13, _)] ⟨rfl, rfl, rfl, rfl, trivial⟩ ?_
  refine go_block ?_
  refine go_loop' (X := Nat × List (Int × Value) × Lens) (fun x => [(13, .int .i64 (x.1 : Int))]) [(4, _), (11, _), (12, _)] (fun x => [mapO bm .u32 x.2.1]) (fun x => x.1 ≤ l.length ∧ Lens.Is x.2.1 x.2.2 ∧ rightF (fun _ => none) l 0 = rightF x.2.2 (l.drop x.1) x.1) (fun x => l.length - x.1) ((0, [], fun _ => none)) ⟨rfl, rfl, rfl, rfl, trivial⟩ (by repeat constructor) ⟨by omega, Lens.Is.nil, rfl⟩ ?_
  intro ⟨k, m, L⟩ ⟨hk, hm, hz⟩
  simp only at hk hm hz ⊢
  refine go_seq ?_
  refine go_region rfl ?_
  refine go_pure0 Tk rfl rfl rfl ?_
  refine go_nil ?_
  refine go_env [(4, _), (11, _), (12, _), (13, _), (14, _)] ⟨rfl, rfl, rfl, rfl, rfl, trivial⟩ ?_
  refine go_seq ?_
  refine go_condD rfl ?_ ?_
  ·intro hq1
   iterate 4 first | refine go_skip ?_ | refine go_seq ?_ | refine go_block ?_
   refine go_elem_cl (xs := l) (by repeat constructor) (k) (List.getElem?_eq_getElem (by omega)) (fun b0 o0 A0 c0 B0 d0 hA => ?_); cases hA
   refine go_region rfl ?_
   refine go_pure0 Tk rfl rfl rfl ?_
   refine go_val0 rfl (idx_val Tk rfl rfl rfl rfl rfl (by omega)) rfl ?_
   refine go_val0 rfl (ldv Tk rfl rfl rfl) rfl ?_
   refine go_alloc Tk rfl rfl rfl (by rfl) rfl rfl (fun h => nomatch h) ?_
   intro bt
   refine go_pure0 Tk rfl rfl rfl ?_
   refine go_store Tk rfl rfl rfl rfl rfl rfl (by repeat constructor) rfl rfl (by rfl) (fun h => nomatch h) ?_
   refine go_nil ?_
   refine go_freeze_pt (b := bt) (by repeat constructor) ?_
   refine go_env [(4, _), (5, _), (6, _), (11, _), (12, _), (13, _)] ⟨rfl, rfl, rfl, rfl, rfl, rfl, trivial⟩ ?_
   refine go_block ?_
   refine go_seq ?_
   refine go_region rfl ?_
   refine go_val0 rfl (ldv Tk rfl rfl rfl) rfl ?_
   refine go_call (may l[k] A0 c0 B0 d0) rfl rfl (by rfl) rfl (by repeat constructor) (by repeat constructor) (fun h => nomatch h) ?_
   rintro _ _ _ ⟨rfl, rfl, rfl⟩
   iterate 2 refine go_pure0 Tk rfl rfl rfl ?_
   refine go_nil ?_
   refine go_env [(4, _), (5, _), (6, _), (11, _), (12, _), (13, _), (18, _)] ⟨rfl, rfl, rfl, rfl, rfl, rfl, rfl, trivial⟩ ?_
   refine go_cond rfl ?_ ?_
   ·intro g1
    (try simp only [decide_eq_true_eq, decide_eq_false_iff_not, Bool.not_eq_true', Bool.not_eq_false', Bool.not_eq_eq_eq_not, Bool.not_true, Bool.not_false, Int.not_lt, Int.not_le, beq_iff_eq, beq_eq_false_iff_ne, ne_eq] at g1)
    iterate 5 first | refine go_seq ?_ | refine go_region rfl ?_ | refine go_pure0 Tk rfl rfl rfl ?_
    refine go_nil ?_
    refine go_env [(2, _), (3, _)] ⟨rfl, rfl, trivial⟩ ?_
    refine go_ret ⟨rfl, rfl⟩ _ _ (res2 (by rfl) (.tmp rfl) (.tmp rfl)) ⟨by unfold rightC; rw [if_neg (by omega), hz, right_bad (by omega) (by rw [show badC L l[k] = 8 by unfold badC; rw [if_pos g1]]; decide), show badC L l[k] = 8 by unfold badC; rw [if_pos g1]], rfl, rfl⟩ (by repeat constructor) (by repeat constructor)
   ·intro g1
    (try simp only [decide_eq_true_eq, decide_eq_false_iff_not, Bool.not_eq_true', Bool.not_eq_false', Bool.not_eq_eq_eq_not, Bool.not_true, Bool.not_false, Int.not_lt, Int.not_le, beq_iff_eq, beq_eq_false_iff_ne, ne_eq] at g1)
    refine go_seq ?_
    refine go_region rfl ?_
    refine go_val0 rfl (ldv Tk rfl rfl rfl) rfl ?_
    refine go_call (safeHeld l[k] A0 c0 B0 d0 (may_len g1).1 (may_len g1).2) rfl rfl (by rfl) rfl (by repeat constructor) (by repeat constructor) (fun h => nomatch h) ?_
    rintro _ _ _ ⟨rfl, rfl, rfl⟩
    iterate 2 refine go_pure0 Tk rfl rfl rfl ?_
    refine go_nil ?_
    refine go_env [(4, _), (5, _), (6, _), (11, _), (12, _), (13, _), (23, _)] ⟨rfl, rfl, rfl, rfl, rfl, rfl, rfl, trivial⟩ ?_
    refine go_cond rfl ?_ ?_
    ·intro g2
     (try simp only [decide_eq_true_eq, decide_eq_false_iff_not, Bool.not_eq_true', Bool.not_eq_false', Bool.not_eq_eq_eq_not, Bool.not_true, Bool.not_false, Int.not_lt, Int.not_le, beq_iff_eq, beq_eq_false_iff_ne, ne_eq] at g2)
     iterate 5 first | refine go_seq ?_ | refine go_region rfl ?_ | refine go_pure0 Tk rfl rfl rfl ?_
     refine go_nil ?_
     refine go_env [(2, _), (3, _)] ⟨rfl, rfl, trivial⟩ ?_
     refine go_ret ⟨rfl, rfl⟩ _ _ (res2 (by rfl) (.tmp rfl) (.tmp rfl)) ⟨by unfold rightC; rw [if_neg (by omega), hz, right_bad (by omega) (by rw [show badC L l[k] = 10 by unfold badC; rw [if_neg (by rw [g1]; decide), if_pos g2]]; decide), show badC L l[k] = 10 by unfold badC; rw [if_neg (by rw [g1]; decide), if_pos g2]], rfl, rfl⟩ (by repeat constructor) (by repeat constructor)
    ·intro g2
     (try simp only [decide_eq_true_eq, decide_eq_false_iff_not, Bool.not_eq_true', Bool.not_eq_false', Bool.not_eq_eq_eq_not, Bool.not_true, Bool.not_false, Int.not_lt, Int.not_le, beq_iff_eq, beq_eq_false_iff_ne, ne_eq] at g2)
     refine go_seq ?_
     refine go_region rfl ?_
     refine go_pure0 Tk rfl rfl rfl ?_
     refine go_val0 rfl (ldv Tk rfl rfl rfl) rfl ?_
     refine go_call (safeClause bm m L hm l[k] A0 c0 B0 d0) rfl rfl (by rfl) rfl (by repeat constructor) (by repeat constructor) (fun h => nomatch h) ?_
     rintro _ _ _ ⟨m1, hm1, rfl, rfl, rfl⟩
     iterate 2 refine go_pure0 Tk rfl rfl rfl ?_
     refine go_nil ?_
     refine go_env [(4, _), (5, _), (11, _), (12, _), (13, _), (28, _)] ⟨rfl, rfl, rfl, rfl, rfl, rfl, trivial⟩ ?_
     refine go_cond rfl ?_ ?_
     ·intro g3
      (try simp only [decide_eq_true_eq, decide_eq_false_iff_not, Bool.not_eq_true', Bool.not_eq_false', Bool.not_eq_eq_eq_not, Bool.not_true, Bool.not_false, Int.not_lt, Int.not_le, beq_iff_eq, beq_eq_false_iff_ne, ne_eq] at g3)
      iterate 5 first | refine go_seq ?_ | refine go_region rfl ?_ | refine go_pure0 Tk rfl rfl rfl ?_
      refine go_nil ?_
      refine go_env [(2, _), (3, _)] ⟨rfl, rfl, trivial⟩ ?_
      refine go_ret ⟨rfl, rfl⟩ _ _ (res2 (by rfl) (.tmp rfl) (.tmp rfl)) ⟨by unfold rightC; rw [if_neg (by omega), hz, right_bad (by omega) (by rw [show badC L l[k] = 9 by unfold badC; rw [if_neg (by rw [g1]; decide), if_neg (by rw [g2]; decide), if_pos g3]]; decide), show badC L l[k] = 9 by unfold badC; rw [if_neg (by rw [g1]; decide), if_neg (by rw [g2]; decide), if_pos g3]], rfl, rfl⟩ (by repeat constructor) (by repeat constructor)
     ·intro g3
      (try simp only [decide_eq_true_eq, decide_eq_false_iff_not, Bool.not_eq_true', Bool.not_eq_false', Bool.not_eq_eq_eq_not, Bool.not_true, Bool.not_false, Int.not_lt, Int.not_le, beq_iff_eq, beq_eq_false_iff_ne, ne_eq] at g3)
      refine go_skip ?_
      refine go_blk ?_
      refine go_blk ?_
      iterate 3 first | refine go_region rfl ?_ | refine go_pure0 Tk rfl rfl rfl ?_
      refine go_nil ?_
      refine go_i64 13 rfl (by omega) (by omega) ?_
      refine go_back (k + 1, m1, (clauseL L l[k]).2) ⟨rfl, rfl, rfl, rfl, trivial⟩ (by repeat constructor) (by repeat constructor) ⟨by show k + 1 ≤ _; omega, hm1, hz.trans (right_ok (by omega) (by unfold badC; rw [if_neg (by rw [g1]; decide), if_neg (by rw [g2]; decide), if_neg (by rw [g3]; decide)]))⟩ (by show l.length - (k + 1) < l.length - k; omega)
  ·intro hq1
   iterate 5 first | refine go_exit rfl ?_ | refine go_seq ?_ | refine go_region rfl ?_ | refine go_pure0 Tk rfl rfl rfl ?_
   refine go_nil ?_
   refine go_env [(2, _), (3, _)] ⟨rfl, rfl, trivial⟩ ?_
   refine go_ret ⟨rfl, rfl⟩ _ _ (res2 (by rfl) (.tmp rfl) (.tmp rfl)) ⟨by unfold rightC; rw [if_neg (by omega), hz, List.drop_eq_nil_of_le (by omega)]; rfl, rfl, rfl⟩ (by repeat constructor) (by repeat constructor)

end Go.Proofs.Ytkhddfknpegpmaa.SL

/- Contracts of functions of the program (Joina): what each call comes to, for the laws' proofs. -/
set_option linter.unusedVariables false
set_option linter.unusedSimpArgs false
namespace Go.Proofs.Ytkhddfknpegpmaa.SL
open Go 

set_option maxHeartbeats 2000000 in
set_option maxRecDepth 20000 in
theorem atomsOf (a : Am) (AA : Option Addr) (ac : Nat) (hn : a.a.length ≤ 1000000) :
    Spec Try.prog 62 #[.agg #[.int .u32 a.p, .slice AA a.a.length ac]] [sl tTm AA ac a.a] [] (fun v Ps' Os' => ∃ A c, v = .tuple #[.agg #[.int .u32 (ofA a).p, .slice A (ofA a).a.length c], .bool (ground a)] ∧ Ps' = [sl tU A c (ofA a).a] ∧ Os' = []) := by
 refine spec_of (fn := Try.f62) (args := [.agg #[.int .u32 a.p, .slice AA a.a.length ac]]) 29 Try.func62 rfl (by kernel_rfl) Try.ntmps62 (Nat.le_of_ble_eq_true rfl) (fun w0 hp0 hf0 => ?_)
 refine go_seq ?_
 refine go_region rfl ?_
 refine go_box Tk rfl rfl rfl rfl (by rfl) rfl rfl (fun h => nomatch h) ?_
 intro b0
 refine go_freeze_pt (b := b0) (by repeat constructor) ?_
 refine go_alloc Tk rfl rfl rfl (by rfl) rfl rfl (fun h => nomatch h) ?_
 intro bF
 refine go_pure0 Tk rfl rfl rfl ?_
 refine go_nil ?_
 refine go_env [(1, _), (2, _)] ⟨rfl, rfl, trivial⟩ ?_
 refine go_seq ?_
 refine go_seq ?_
 refine go_region rfl ?_
 refine go_val0 rfl (ldv Tk rfl rfl rfl) rfl ?_
 refine go_call (groundA a AA ac) rfl rfl (by rfl) rfl (by repeat constructor) (by repeat constructor) (fun h => nomatch h) ?_
 rintro _ _ _ ⟨rfl, rfl, rfl⟩
 refine go_pure0 Tk rfl rfl rfl ?_
 refine go_nil ?_
 refine go_env [(1, _), (2, _), (8, _)] ⟨rfl, rfl, rfl, trivial⟩ ?_
 refine go_cond rfl ?_ ?_
 ·intro g1
  (try simp only [decide_eq_true_eq, decide_eq_false_iff_not, Bool.not_eq_true', Bool.not_eq_false', Bool.not_eq_eq_eq_not, Bool.not_true, Bool.not_false, Int.not_lt, Int.not_le, beq_iff_eq, beq_eq_false_iff_ne, ne_eq] at g1)
  refine go_own_nil tU 22 none ?_
  refine go_freeze_ol (xs := []) (by repeat constructor) ?_
  have hof : ofA a = ⟨0, []⟩ := by unfold ofA; rw [g1]; rfl
  refine go_seq ?_
  refine go_region rfl ?_
  refine go_val0 rfl (ldv Tk rfl rfl rfl) rfl ?_
  refine go_store Tk rfl rfl rfl rfl rfl rfl (by repeat constructor) rfl rfl (by rfl) (fun h => nomatch h) ?_
  refine go_pure0 Tk rfl rfl rfl ?_
  refine go_nil ?_
  refine go_env [(2, _), (3, _)] ⟨rfl, rfl, trivial⟩ ?_
  refine go_ret ⟨rfl, rfl⟩ _ _ (res2 (by rfl) (.cell rfl (rdv Tk rfl)) (.tmp rfl)) ⟨none, 0, by rw [hof, g1]; rfl, by rw [hof], rfl⟩ (by repeat constructor) (by repeat constructor)
 ·intro g1
  (try simp only [decide_eq_true_eq, decide_eq_false_iff_not, Bool.not_eq_true', Bool.not_eq_false', Bool.not_eq_eq_eq_not, Bool.not_true, Bool.not_false, Int.not_lt, Int.not_le, beq_iff_eq, beq_eq_false_iff_ne, ne_eq] at g1)
  have hof : ofA a = ⟨a.p, a.a.map (·.n)⟩ := by unfold ofA; rw [if_pos g1]
  iterate 6 first | refine go_skip ?_ | refine go_seq ?_ | refine go_region rfl ?_ | refine go_pure0 Tk rfl rfl rfl ?_ | refine go_val0 rfl (ldv Tk rfl rfl rfl) rfl ?_
  refine go_store Tk rfl rfl rfl rfl rfl rfl (by repeat constructor) rfl rfl (by rfl) (fun h => nomatch h) ?_
  refine go_nil ?_
  refine go_env [(1, _), (2, _)] ⟨rfl, rfl, trivial⟩ ?_
  iterate 2 refine go_seq ?_
  refine go_len (xs := a.a) (by repeat constructor) (fun l0 m0 => ?_)
  refine go_own_nil tU 22 none ?_
  rw [show ([] : List Int) = (a.a.take 0).map fun t => t.n from rfl]
  iterate 5 first | refine go_region rfl ?_ | refine go_pure0 Tk rfl rfl rfl ?_ | refine go_val0 rfl (ldv Tk rfl rfl rfl) rfl ?_
  refine go_nil ?_
  refine go_env [(2, _), (14, _), (15, _), (16, _)] ⟨rfl, rfl, rfl, rfl, trivial⟩ ?_
  refine go_block ?_
  refine go_loop' (X := Nat × Option Addr × Nat) (fun x => [(16, .int .i64 (x.1 : Int))]) [(2, _), (14, _), (15, _)] (fun x => [pt bF 41 [.int .u32 a.p, .slice x.2.1 ((a.a.take x.1).map fun t => t.n).length x.2.2], ol tU 22 x.2.1 x.2.2 ((a.a.take x.1).map fun t => t.n)]) (fun x => x.1 ≤ a.a.length) (fun x => a.a.length - x.1) ((0, none, 0)) ⟨rfl, rfl, rfl, rfl, trivial⟩ (by repeat constructor) (by omega) ?_
  intro ⟨k, A1, c1⟩ hk
  simp only at hk ⊢
  have hkl : ((a.a.take k).map fun t => t.n).length = k := by simp; omega
  refine go_seq ?_
  refine go_region rfl ?_
  refine go_pure0 Tk rfl rfl rfl ?_
  refine go_nil ?_
  refine go_env [(2, _), (14, _), (15, _), (16, _), (17, _)] ⟨rfl, rfl, rfl, rfl, rfl, trivial⟩ ?_
  refine go_seq ?_
  refine go_condD rfl ?_ ?_
  ·intro hq1
   iterate 4 first | refine go_skip ?_ | refine go_seq ?_ | refine go_block ?_
   refine go_elem_tm (xs := a.a) (by repeat constructor) (k) (List.getElem?_eq_getElem (by omega)) (fun b1 o1 hA => ?_); cases hA
   refine go_region rfl ?_
   refine go_val0 rfl (idx_val Tk rfl rfl rfl rfl rfl (by omega)) rfl ?_
   refine go_val0 rfl (ldv Tk rfl rfl rfl) rfl ?_
   refine go_alloc Tk rfl rfl rfl (by rfl) rfl rfl (fun h => nomatch h) ?_
   intro b1
   refine go_store Tk rfl rfl rfl rfl rfl rfl (by repeat constructor) rfl rfl (by rfl) (fun h => nomatch h) ?_
   refine go_nil ?_
   refine go_env [(2, _), (5, _), (14, _), (15, _), (16, _)] ⟨rfl, rfl, rfl, rfl, rfl, trivial⟩ ?_
   iterate 5 first | refine go_region rfl ?_ | refine go_pure0 Tk rfl rfl rfl ?_ | refine go_val0 rfl (ldv Tk rfl rfl rfl) rfl ?_
   refine go_bslice Tk rfl rfl rfl rfl rfl rfl rfl rfl (fun h => nomatch h) ?_
   intro b2
   refine go_append1 (T := tU) (xs := ((a.a.take k).map fun t => t.n)) Tk (a.a[k].n) rfl rfl rfl rfl rfl rfl rfl rfl rfl (by repeat constructor) (by repeat constructor) rfl ent_int (by omega) (by first | exact (fun _ _ _ => satA) | exact (fun h => nomatch h) | exact (fun h => nomatch (Eq.symm h).trans (show _ = false by kernel_rfl))) ?_
   intro A3 c3
   refine go_pure0 Tk rfl rfl rfl ?_
   refine go_store Tk rfl rfl rfl rfl rfl rfl (by repeat constructor) rfl rfl (by rfl) (fun h => nomatch h) ?_
   refine go_nil ?_
   refine go_env [(2, _), (14, _), (15, _), (16, _)] ⟨rfl, rfl, rfl, rfl, trivial⟩ ?_
   refine go_blk ?_
   iterate 3 first | refine go_region rfl ?_ | refine go_pure0 Tk rfl rfl rfl ?_
   refine go_nil ?_
   refine go_i64 16 rfl (by omega) (by omega) ?_
   rw [show ((a.a.take k).map fun t => t.n) ++ [a.a[k].n] = (a.a.take (k + 1)).map fun t => t.n from by rw [List.take_succ_eq_append_getElem (by omega), List.map_append]; rfl]
   refine go_back (k + 1, A3, c3) ⟨rfl, rfl, rfl, rfl, trivial⟩ (by repeat constructor) (by repeat constructor) (by show k + 1 ≤ _; omega) (by show a.a.length - (k + 1) < a.a.length - k; omega)
  ·intro hq1
   refine go_exit rfl ?_
   refine go_seq ?_
   have htk : a.a.take k = a.a := List.take_of_length_le (by omega)
   rw [htk]
   refine go_freeze_ol (xs := a.a.map fun t => t.n) (by repeat constructor) ?_
   refine go_region rfl ?_
   refine go_val0 rfl (ldv Tk rfl rfl rfl) rfl ?_
   refine go_store Tk rfl rfl rfl rfl rfl rfl (by repeat constructor) rfl rfl (by rfl) (fun h => nomatch h) ?_
   refine go_pure0 Tk rfl rfl rfl ?_
   refine go_nil ?_
   refine go_env [(2, _), (3, _)] ⟨rfl, rfl, trivial⟩ ?_
   refine go_ret ⟨rfl, rfl⟩ _ _ (res2 (by rfl) (.cell rfl (rdv Tk rfl)) (.tmp rfl)) ⟨A1, c1, by rw [hof, g1], by rw [hof], rfl⟩ (by repeat constructor) (by repeat constructor)

end Go.Proofs.Ytkhddfknpegpmaa.SL

/- Contracts of functions of the program (Joinb): what each call comes to, for the laws' proofs. -/
set_option linter.unusedVariables false
set_option linter.unusedSimpArgs false
namespace Go.Proofs.Ytkhddfknpegpmaa.SL
open Go 

theorem at_cl1 {Ps : List PA} {Os : List OA} {b oo : Nat} {cs0 : List Value} {v : Value} (h : cl b 0 cs0 ∈ Ps) (k : Nat) (ho : oo = 0 + k) (h3 : cs0[k]? = some v) : At Ps Os b oo 1 [v] := by
  subst ho
  obtain ⟨h4, h5⟩ := List.getElem?_eq_some_iff.1 h3
  exact at_cl k h (by rw [dropL_eq, List.drop_eq_getElem_cons h4, h5]; rfl)

set_option maxHeartbeats 2000000 in
set_option maxRecDepth 20000 in
theorem choicePut (bC : Nat) (few : List Int) (is : List Bool) (hf : few.length = 16) (hi : is.length = 16) (a : Am) (AA : Option Addr) (ac : Nat) (hn : a.a.length ≤ 1000000) (hv : ∀ t ∈ a.a, t.v = true → 0 ≤ t.n ∧ t.n < 16) :
    Spec Try.prog 50 #[.pointer (some ⟨bC, 0, none⟩), .agg #[.int .u32 a.p, .slice AA a.a.length ac]] [cl bC 0 (hc few is []), sl tTm AA ac a.a] [] (fun v Ps' Os' => ∃ A c, v = .agg #[.int .u32 a.p, .slice A (putA few is a).a.length c] ∧ Ps' = [sl tTm A c (putA few is a).a] ∧ Os' = []) := by
 refine spec_of (fn := Try.f50) (args := [.pointer (some ⟨bC, 0, none⟩), .agg #[.int .u32 a.p, .slice AA a.a.length ac]]) 45 Try.func50 rfl (by kernel_rfl) Try.ntmps50 (Nat.le_of_ble_eq_true rfl) (fun w0 hp0 hf0 => ?_)
 refine go_seq ?_
 refine go_region rfl ?_
 refine go_box Tk rfl rfl rfl rfl (by rfl) rfl rfl (fun h => nomatch h) ?_
 intro b0
 refine go_freeze_pt (b := b0) (by repeat constructor) ?_
 refine go_alloc Tk rfl rfl rfl (by rfl) rfl rfl (fun h => nomatch h) ?_
 intro bR
 refine go_nil ?_
 refine go_env [(0, _), (3, _), (4, _)] ⟨rfl, rfl, rfl, trivial⟩ ?_
 refine go_seq ?_
 refine go_region rfl ?_
 refine go_pure0 Tk rfl rfl rfl ?_
 refine go_val0 rfl (ldv Tk rfl rfl rfl) rfl ?_
 refine go_val0 rfl (fun a w hp ho hf hs => build_val Tk rfl rfl rfl (by rfl) a w hf) rfl ?_
 refine go_alloc Tk rfl rfl rfl (by rfl) rfl rfl (fun h => nomatch h) ?_
 intro bO
 refine go_store Tk rfl rfl rfl rfl rfl rfl (by repeat constructor) rfl rfl (by rfl) (fun h => nomatch h) ?_
 refine go_nil ?_
 refine go_env [(0, _), (3, _), (4, _), (5, _)] ⟨rfl, rfl, rfl, rfl, trivial⟩ ?_
 iterate 2 refine go_seq ?_
 refine go_len (xs := a.a) (by repeat constructor) (fun l0 m0 => ?_)
 refine go_own_nil tTm 62 none ?_
 rw [show ([] : List Tm) = (a.a.take 0).map (putT few is) from rfl]
 iterate 5 first | refine go_region rfl ?_ | refine go_pure0 Tk rfl rfl rfl ?_ | refine go_val0 rfl (ldv Tk rfl rfl rfl) rfl ?_
 refine go_nil ?_
 refine go_env [(0, _), (4, _), (5, _), (12, _), (13, _), (14, _)] ⟨rfl, rfl, rfl, rfl, rfl, rfl, trivial⟩ ?_
 refine go_block ?_
 refine go_loop' (X := Nat × Option Addr × Nat) (fun x => [(14, .int .i64 (x.1 : Int))]) [(0, _), (4, _), (5, _), (12, _), (13, _)] (fun x => [pt bO 25 [.int .u32 a.p, .slice x.2.1 ((a.a.take x.1).map (putT few is)).length x.2.2], ol tTm 62 x.2.1 x.2.2 ((a.a.take x.1).map (putT few is))]) (fun x => x.1 ≤ a.a.length) (fun x => a.a.length - x.1) ((0, none, 0)) ⟨rfl, rfl, rfl, rfl, rfl, rfl, trivial⟩ (by repeat constructor) (by omega) ?_
 intro ⟨k, A1, c1⟩ hk
 simp only at hk ⊢
 have hkl : ((a.a.take k).map (putT few is)).length = k := by simp; omega
 refine go_seq ?_
 refine go_region rfl ?_
 refine go_pure0 Tk rfl rfl rfl ?_
 refine go_nil ?_
 refine go_env [(0, _), (4, _), (5, _), (12, _), (13, _), (14, _), (15, _)] ⟨rfl, rfl, rfl, rfl, rfl, rfl, rfl, trivial⟩ ?_
 refine go_seq ?_
 refine go_condD rfl ?_ ?_
 ·intro hq1
  iterate 4 first | refine go_skip ?_ | refine go_seq ?_ | refine go_block ?_
  refine go_elem_tm (xs := a.a) (by repeat constructor) (k) (List.getElem?_eq_getElem (by omega)) (fun b1 o1 hA => ?_); cases hA
  refine go_region rfl ?_
  refine go_val0 rfl (idx_val Tk rfl rfl rfl rfl rfl (by omega)) rfl ?_
  refine go_val0 rfl (ldv Tk rfl rfl rfl) rfl ?_
  refine go_alloc Tk rfl rfl rfl (by rfl) rfl rfl (fun h => nomatch h) ?_
  intro bT
  refine go_store Tk rfl rfl rfl rfl rfl rfl (by repeat constructor) rfl rfl (by rfl) (fun h => nomatch h) ?_
  refine go_nil ?_
  refine go_env [(0, _), (4, _), (5, _), (7, _), (12, _), (13, _), (14, _)] ⟨rfl, rfl, rfl, rfl, rfl, rfl, rfl, trivial⟩ ?_
  iterate 2 refine go_seq ?_
  refine go_draw'  [1, 5, 9] (SL.pre [(1, 0), (2, 1), (1, 2), (1, 3), (1, 4), (1, 6), (1, 7), (2, 5), (1, 8), (2, 9), (1, 10)] .nil) mixed rfl (by kernel_rfl) ?_
  iterate 3 first | refine go_pure1 Tk rfl rfl rfl ?_ | refine go_val2a rfl (ldv Tk rfl rfl rfl) rfl ?_
  refine go_known 20 rfl ?_ ?_
  ·intro g1
   (try simp only [decide_eq_true_eq, decide_eq_false_iff_not, Bool.not_eq_true', Bool.not_eq_false', Bool.not_eq_eq_eq_not, Bool.not_true, Bool.not_false, Int.not_lt, Int.not_le, beq_iff_eq, beq_eq_false_iff_ne, ne_eq] at g1)
   obtain ⟨j, hj, hj16⟩ : ∃ j : Nat, a.a[k].n = (j : Int) ∧ j < 16 := ⟨a.a[k].n.toNat, by have := hv _ (List.getElem_mem _) g1; omega, by have := hv _ (List.getElem_mem _) g1; omega⟩
   iterate 5 first | refine go_pure1 Tk rfl rfl rfl ?_ | refine go_val2a rfl (ldv Tk rfl rfl rfl) rfl ?_
   refine go_re 23 (.int .u32 (j : Int)) (by show some (Value.int _ _) = _; rw [hj]) ?_
   refine go_val1 rfl (idxA_val Tk rfl rfl rfl rfl rfl (by omega)) rfl ?_
   refine go_val2a rfl (load_val (cs := [.bool is[j]]) Tk rfl rfl rfl (at_cl1 (by repeat constructor) (few.length + j) (by show 0 + 16 + j * 1 = _; omega) (hc_is (by omega) rfl)) rfl) rfl ?_
   refine go_pure1 Tk rfl rfl rfl ?_
   refine go_nil ?_
   refine go_env [(0, _), (4, _), (5, _), (7, _), (12, _), (13, _), (14, _), (21, _), (22, _), (23, _), (24, _), (25, _), (26, _), (27, _), (28, _)] ⟨rfl, rfl, rfl, rfl, rfl, rfl, rfl, rfl, rfl, rfl, rfl, rfl, rfl, rfl, rfl, trivial⟩ ?_
   refine go_cond rfl ?_ ?_
   ·intro g2
    (try simp only [decide_eq_true_eq, decide_eq_false_iff_not, Bool.not_eq_true', Bool.not_eq_false', Bool.not_eq_eq_eq_not, Bool.not_true, Bool.not_false, Int.not_lt, Int.not_le, beq_iff_eq, beq_eq_false_iff_ne, ne_eq] at g2)
    refine go_draw'  [2, 6] (SL.pre [(1, 0), (1, 1), (1, 3), (1, 4), (2, 2), (1, 5), (2, 6), (1, 7), (0, 8)] .nil) mixed rfl (by kernel_rfl) ?_
    iterate 5 first | refine go_pure1 Tk rfl rfl rfl ?_ | refine go_val2a rfl (ldv Tk rfl rfl rfl) rfl ?_
    refine go_re 31 (.int .u32 (j : Int)) (by show some (Value.int _ _) = _; rw [hj]) ?_
    refine go_val1 rfl (idxA_val Tk rfl rfl rfl rfl rfl (by omega)) rfl ?_
    refine go_val2a rfl (load_val (cs := [.int .u32 few[j]]) Tk rfl rfl rfl (at_cl1 (by repeat constructor) j (by show 0 + 0 + j * 1 = _; omega) (hc_few (by omega) rfl)) rfl) rfl ?_
    refine go_val1 rfl (fun a w hp ho hf hs => build_val Tk rfl rfl rfl (by rfl) a w hf) rfl ?_
    refine go_store Tk rfl rfl rfl rfl rfl rfl (by repeat constructor) rfl rfl (by rfl) (fun h => nomatch h) ?_
    refine go_nil ?_
    refine go_env [(0, _), (4, _), (5, _), (7, _), (12, _), (13, _), (14, _), (21, _), (22, _), (23, _), (24, _), (25, _), (26, _), (27, _)] ⟨rfl, rfl, rfl, rfl, rfl, rfl, rfl, rfl, rfl, rfl, rfl, rfl, rfl, rfl, trivial⟩ ?_
    iterate 4 first | refine go_region rfl ?_ | refine go_pure0 Tk rfl rfl rfl ?_ | refine go_val0 rfl (ldv Tk rfl rfl rfl) rfl ?_
    refine go_bslice Tk rfl rfl rfl rfl rfl rfl rfl rfl (fun h => nomatch h) ?_
    intro b1
    refine go_append1 (T := tTm) (xs := ((a.a.take k).map (putT few is))) Tk ((⟨false, few[j]⟩ : Tm)) rfl rfl rfl rfl rfl rfl rfl rfl rfl (by repeat constructor) (by repeat constructor) rfl ent_tm (by omega) (by first | exact (fun _ _ _ => satA) | exact (fun h => nomatch h) | exact (fun h => nomatch (Eq.symm h).trans (show _ = false by kernel_rfl))) ?_
    intro A3 c3
    refine go_pure0 Tk rfl rfl rfl ?_
    refine go_store Tk rfl rfl rfl rfl rfl rfl (by repeat constructor) rfl rfl (by rfl) (fun h => nomatch h) ?_
    refine go_nil ?_
    refine go_env [(0, _), (4, _), (5, _), (12, _), (13, _), (14, _), (21, _), (22, _), (23, _), (24, _), (25, _), (26, _), (27, _)] ⟨rfl, rfl, rfl, rfl, rfl, rfl, rfl, rfl, rfl, rfl, rfl, rfl, rfl, trivial⟩ ?_
    refine go_blk ?_
    iterate 3 first | refine go_region rfl ?_ | refine go_pure0 Tk rfl rfl rfl ?_
    refine go_nil ?_
    refine go_i64 14 rfl (by omega) (by omega) ?_
    have hpt := putT_yes (few := few) (is := is) g1 (by omega) (by omega) hj g2
    rw [show ((a.a.take k).map (putT few is)) ++ [_] = (a.a.take (k + 1)).map (putT few is) from by rw [List.take_succ_eq_append_getElem (by omega), List.map_append, List.map_cons, hpt]; rfl]
    refine go_back (k + 1, A3, c3) ⟨rfl, rfl, rfl, rfl, rfl, rfl, trivial⟩ (by repeat constructor) (by repeat constructor) (by show k + 1 ≤ _; omega) (by show a.a.length - (k + 1) < a.a.length - k; omega)
   ·intro g2
    (try simp only [decide_eq_true_eq, decide_eq_false_iff_not, Bool.not_eq_true', Bool.not_eq_false', Bool.not_eq_eq_eq_not, Bool.not_true, Bool.not_false, Int.not_lt, Int.not_le, beq_iff_eq, beq_eq_false_iff_ne, ne_eq] at g2)
    iterate 5 first | refine go_skip ?_ | refine go_region rfl ?_ | refine go_pure0 Tk rfl rfl rfl ?_ | refine go_val0 rfl (ldv Tk rfl rfl rfl) rfl ?_
    refine go_bslice Tk rfl rfl rfl rfl rfl rfl rfl rfl (fun h => nomatch h) ?_
    intro b2
    refine go_append1 (T := tTm) (xs := ((a.a.take k).map (putT few is))) Tk (a.a[k]) rfl rfl rfl rfl rfl rfl rfl rfl rfl (by repeat constructor) (by repeat constructor) rfl ent_tm (by omega) (by first | exact (fun _ _ _ => satA) | exact (fun h => nomatch h) | exact (fun h => nomatch (Eq.symm h).trans (show _ = false by kernel_rfl))) ?_
    intro A3 c3
    refine go_pure0 Tk rfl rfl rfl ?_
    refine go_store Tk rfl rfl rfl rfl rfl rfl (by repeat constructor) rfl rfl (by rfl) (fun h => nomatch h) ?_
    refine go_nil ?_
    refine go_env [(0, _), (4, _), (5, _), (12, _), (13, _), (14, _), (21, _), (22, _), (23, _), (24, _), (25, _), (26, _), (27, _)] ⟨rfl, rfl, rfl, rfl, rfl, rfl, rfl, rfl, rfl, rfl, rfl, rfl, rfl, trivial⟩ ?_
    refine go_blk ?_
    iterate 3 first | refine go_region rfl ?_ | refine go_pure0 Tk rfl rfl rfl ?_
    refine go_nil ?_
    refine go_i64 14 rfl (by omega) (by omega) ?_
    have hpt := putT_free (few := few) (is := is) (by omega) hj g2
    rw [show ((a.a.take k).map (putT few is)) ++ [_] = (a.a.take (k + 1)).map (putT few is) from by rw [List.take_succ_eq_append_getElem (by omega), List.map_append, List.map_cons, hpt]; rfl]
    refine go_back (k + 1, A3, c3) ⟨rfl, rfl, rfl, rfl, rfl, rfl, trivial⟩ (by repeat constructor) (by repeat constructor) (by show k + 1 ≤ _; omega) (by show a.a.length - (k + 1) < a.a.length - k; omega)
  ·intro g1
   (try simp only [decide_eq_true_eq, decide_eq_false_iff_not, Bool.not_eq_true', Bool.not_eq_false', Bool.not_eq_eq_eq_not, Bool.not_true, Bool.not_false, Int.not_lt, Int.not_le, beq_iff_eq, beq_eq_false_iff_ne, ne_eq] at g1)
   iterate 4 refine go_skip1 rfl rfl ?_
   refine go_skip2 rfl (by repeat constructor) (by repeat constructor) rfl ?_
   refine go_skip1 rfl rfl ?_
   refine go_skip2 rfl (by repeat constructor) (by repeat constructor) rfl ?_
   refine go_pure1 Tk rfl rfl rfl ?_
   refine go_nil ?_
   refine go_env [(0, _), (4, _), (5, _), (7, _), (12, _), (13, _), (14, _), (21, _), (22, _), (23, _), (24, _), (25, _), (26, _), (27, _), (28, _)] ⟨rfl, rfl, rfl, rfl, rfl, rfl, rfl, rfl, rfl, rfl, rfl, rfl, rfl, rfl, rfl, trivial⟩ ?_
   refine go_cond_f rfl ?_
   iterate 5 first | refine go_skip ?_ | refine go_region rfl ?_ | refine go_pure0 Tk rfl rfl rfl ?_ | refine go_val0 rfl (ldv Tk rfl rfl rfl) rfl ?_
   refine go_bslice Tk rfl rfl rfl rfl rfl rfl rfl rfl (fun h => nomatch h) ?_
   intro b3
   refine go_append1 (T := tTm) (xs := ((a.a.take k).map (putT few is))) Tk (a.a[k]) rfl rfl rfl rfl rfl rfl rfl rfl rfl (by repeat constructor) (by repeat constructor) rfl ent_tm (by omega) (by first | exact (fun _ _ _ => satA) | exact (fun h => nomatch h) | exact (fun h => nomatch (Eq.symm h).trans (show _ = false by kernel_rfl))) ?_
   intro A3 c3
   refine go_pure0 Tk rfl rfl rfl ?_
   refine go_store Tk rfl rfl rfl rfl rfl rfl (by repeat constructor) rfl rfl (by rfl) (fun h => nomatch h) ?_
   refine go_nil ?_
   refine go_env [(0, _), (4, _), (5, _), (12, _), (13, _), (14, _), (21, _), (22, _), (23, _), (24, _), (25, _), (26, _), (27, _)] ⟨rfl, rfl, rfl, rfl, rfl, rfl, rfl, rfl, rfl, rfl, rfl, rfl, rfl, trivial⟩ ?_
   refine go_blk ?_
   iterate 3 first | refine go_region rfl ?_ | refine go_pure0 Tk rfl rfl rfl ?_
   refine go_nil ?_
   refine go_i64 14 rfl (by omega) (by omega) ?_
   have hpt := putT_no (few := few) (is := is) g1
   rw [show ((a.a.take k).map (putT few is)) ++ [_] = (a.a.take (k + 1)).map (putT few is) from by rw [List.take_succ_eq_append_getElem (by omega), List.map_append, List.map_cons, hpt]; rfl]
   refine go_back (k + 1, A3, c3) ⟨rfl, rfl, rfl, rfl, rfl, rfl, trivial⟩ (by repeat constructor) (by repeat constructor) (by show k + 1 ≤ _; omega) (by show a.a.length - (k + 1) < a.a.length - k; omega)
 ·intro hq1
  refine go_exit rfl ?_
  refine go_seq ?_
  have htk : a.a.take k = a.a := List.take_of_length_le (by omega)
  rw [htk]
  refine go_freeze_ol (xs := a.a.map (putT few is)) (by repeat constructor) ?_
  refine go_region rfl ?_
  refine go_val0 rfl (ldv Tk rfl rfl rfl) rfl ?_
  refine go_store Tk rfl rfl rfl rfl rfl rfl (by repeat constructor) rfl rfl (by rfl) (fun h => nomatch h) ?_
  refine go_nil ?_
  refine go_env [(4, _)] ⟨rfl, trivial⟩ ?_
  refine go_ret ⟨rfl, rfl⟩ _ _ (res1 (by rfl) (.cell rfl (rdv Tk rfl))) ⟨A1, c1, rfl, rfl, rfl⟩ (by repeat constructor) (by repeat constructor)

end Go.Proofs.Ytkhddfknpegpmaa.SL

/- Contracts of functions of the program (Joinc): what each call comes to, for the laws' proofs. -/
set_option linter.unusedVariables false
set_option linter.unusedSimpArgs false
namespace Go.Proofs.Ytkhddfknpegpmaa.SL
open Go 

set_option maxHeartbeats 2000000 in
set_option maxRecDepth 20000 in
theorem choiceBecomes (bC : Nat) (few : List Int) (is : List Bool) (hf : few.length = 16) (hi : is.length = 16) (a : Am) (AA : Option Addr) (ac : Nat) (hn : a.a.length ≤ 1000000) (hv : ∀ t ∈ a.a, t.v = true → 0 ≤ t.n ∧ t.n < 16) :
    Spec Try.prog 52 #[.pointer (some ⟨bC, 0, none⟩), .agg #[.int .u32 a.p, .slice AA a.a.length ac]] [cl bC 0 (hc few is []), sl tTm AA ac a.a] [] (fun v Ps' Os' => ∃ A c, v = .agg #[.int .u32 (ofA (putA few is a)).p, .slice A (ofA (putA few is a)).a.length c] ∧ Ps' = [sl tU A c (ofA (putA few is a)).a] ∧ Os' = []) := by
 refine spec_of (fn := Try.f52) (args := [.pointer (some ⟨bC, 0, none⟩), .agg #[.int .u32 a.p, .slice AA a.a.length ac]]) 15 Try.func52 rfl (by kernel_rfl) Try.ntmps52 (Nat.le_of_ble_eq_true rfl) (fun w0 hp0 hf0 => ?_)
 refine go_seq ?_
 refine go_region rfl ?_
 refine go_box Tk rfl rfl rfl rfl (by rfl) rfl rfl (fun h => nomatch h) ?_
 intro b0
 refine go_freeze_pt (b := b0) (by repeat constructor) ?_
 refine go_alloc Tk rfl rfl rfl (by rfl) rfl rfl (fun h => nomatch h) ?_
 intro b1
 refine go_nil ?_
 refine go_env [(0, _), (3, _), (4, _)] ⟨rfl, rfl, rfl, trivial⟩ ?_
 refine go_seq ?_
 refine go_region rfl ?_
 refine go_pure0 Tk rfl rfl rfl ?_
 refine go_val0 rfl (ldv Tk rfl rfl rfl) rfl ?_
 refine go_call (choicePut bC few is hf hi a AA ac hn hv) rfl rfl (by rfl) rfl (by repeat constructor) (by repeat constructor) (fun h => nomatch h) ?_
 rintro _ _ _ ⟨A1, c1, rfl, rfl, rfl⟩
 refine go_call (atomsOf (putA few is a) A1 c1 (by unfold putA; rw [List.length_map]; exact hn)) rfl rfl (by rfl) rfl (by repeat constructor) (by repeat constructor) (fun h => nomatch h) ?_
 rintro _ _ _ ⟨A2, c2, rfl, rfl, rfl⟩
 iterate 3 refine go_pure0 Tk rfl rfl rfl ?_
 refine go_alloc Tk rfl rfl rfl (by rfl) rfl rfl (fun h => nomatch h) ?_
 intro b2
 refine go_store Tk rfl rfl rfl rfl rfl rfl (by repeat constructor) rfl rfl (by rfl) (fun h => nomatch h) ?_
 refine go_pure0 Tk rfl rfl rfl ?_
 refine go_nil ?_
 refine go_env [(4, _), (5, _)] ⟨rfl, rfl, trivial⟩ ?_
 refine go_seq ?_
 refine go_region rfl ?_
 refine go_val0 rfl (ldv Tk rfl rfl rfl) rfl ?_
 refine go_store Tk rfl rfl rfl rfl rfl rfl (by repeat constructor) rfl rfl (by rfl) (fun h => nomatch h) ?_
 refine go_nil ?_
 refine go_env [(4, _)] ⟨rfl, trivial⟩ ?_
 refine go_ret ⟨rfl, rfl⟩ _ _ (res1 (by rfl) (.cell rfl (rdv Tk rfl))) ⟨A2, c2, rfl, rfl, rfl⟩ (by repeat constructor) (by repeat constructor)

end Go.Proofs.Ytkhddfknpegpmaa.SL

/- Choices as values: their cells are known by two lists. -/
set_option linter.unusedVariables false
namespace Go.Proofs.Ytkhddfknpegpmaa.SL
theorem takeL_len {α : Type} : ∀ {n : Nat} {l : List α}, l.length = n → takeL n l = some l
  | 0, [], _ => rfl
  | 0, _ :: _, h => by simp at h
  | n + 1, [], h => by simp at h
  | n + 1, a :: l, h => by simp only [takeL, takeL_len (l := l) (n := n) (by simpa using h)]
theorem putL_whole {vs l : List Value} (h : vs.length = l.length) : putL 0 vs l = some vs := by
  rw [putL_put 0 vs l (by omega)]
  simp [putS, h]
theorem hc_len {few : List Int} {is : List Bool} (hf : few.length = 16) (hi : is.length = 16) : (hc few is []).length = 32 := by simp [hc, hf, hi]
theorem oneCells_of : ∀ {l : List Value}, (∀ v ∈ l, oneCells [v] = true) → oneCells l = true
  | [], _ => rfl
  | v :: l, h => by
    have h1 := h v (.head _)
    have h2 := oneCells_of (l := l) fun u hu => h u (.tail _ hu)
    cases v <;> simp_all [oneCells]
theorem hc_one (few : List Int) (is : List Bool) : oneCells (hc few is []) = true := oneCells_of fun v hv => by
  simp only [hc, List.append_nil, List.mem_append, List.mem_map] at hv
  rcases hv with ⟨x, _, rfl⟩ | ⟨x, _, rfl⟩ <;> rfl
theorem beq_of {m n : Nat} (h : m = n) : Nat.beq m n = true := by subst h; exact Nat.beq_refl m
theorem at_all {Ps : List PA} {Os : List OA} {b e n : Nat} {cur : List Value} {rr : List OA} (h : Rem (pt b e cur) Os rr) (hl : cur.length = n) : At Ps Os b 0 n cur :=
  at_any h hl fun i v hv => by rw [Nat.zero_add]; exact hv
theorem at_allcl {Ps : List PA} {Os : List OA} {b n : Nat} {cur : List Value} (h : cl b 0 cur ∈ Ps) (hl : cur.length = n) : At Ps Os b 0 n cur := at_cl 0 h (takeL_len hl)
end Go.Proofs.Ytkhddfknpegpmaa.SL

/- Contracts of functions of the program (Joind): what each call comes to, for the laws' proofs. -/
set_option linter.unusedVariables false
set_option linter.unusedSimpArgs false
namespace Go.Proofs.Ytkhddfknpegpmaa.SL
open Go 

set_option maxHeartbeats 2000000 in
set_option maxRecDepth 20000 in
theorem choiceMeets (few : List Int) (is : List Bool) (hf : few.length = 16) (hi : is.length = 16) (a : Am) (AA : Option Addr) (ac : Nat) (x : Fa) (A : Option Addr) (c : Nat) (hl : a.a.length = x.a.length) (hv : ∀ t ∈ a.a, t.v = true → 0 ≤ t.n ∧ t.n < 16) :
    Spec Try.prog 51 #[.agg (hc few is []).toArray, .agg #[.int .u32 a.p, .slice AA a.a.length ac], .agg #[.int .u32 x.p, .slice A x.a.length c]] [sl tTm AA ac a.a, sl tU A c x.a] [] (fun v Ps' Os' => v = .agg (hc (meetL x.a (few, is) a.a 0).1 (meetL x.a (few, is) a.a 0).2 []).toArray ∧ Ps' = [] ∧ Os' = []) := by
 refine spec_of (fn := Try.f51) (args := [.agg (hc few is []).toArray, .agg #[.int .u32 a.p, .slice AA a.a.length ac], .agg #[.int .u32 x.p, .slice A x.a.length c]]) 34 Try.func51 rfl (by kernel_rfl) Try.ntmps51 (Nat.le_of_ble_eq_true rfl) (fun w0 hp0 hf0 => ?_)
 refine go_seq ?_
 refine go_region rfl ?_
 refine go_box (cs := hc few is []) Tk rfl rfl rfl rfl (takeL_len (hc_len hf hi)) (beq_of (hc_len hf hi)) rfl (fun h => nomatch h) ?_
 intro bC
 refine go_box Tk rfl rfl rfl rfl (by rfl) rfl rfl (fun h => nomatch h) ?_
 intro bA
 refine go_box Tk rfl rfl rfl rfl (by rfl) rfl rfl (fun h => nomatch h) ?_
 intro bX
 refine go_alloc Tk rfl rfl rfl (by rfl) rfl rfl (fun h => nomatch h) ?_
 intro bR
 refine go_nil ?_
 refine go_freeze_pt (b := bA) (by repeat constructor) ?_
 refine go_freeze_pt (b := bX) (by repeat constructor) ?_
 refine go_env [(3, _), (4, _), (5, _), (6, _)] ⟨rfl, rfl, rfl, rfl, trivial⟩ ?_
 iterate 2 refine go_seq ?_
 refine go_len (xs := a.a) (by repeat constructor) (fun l0 m0 => ?_)
 iterate 5 first | refine go_region rfl ?_ | refine go_pure0 Tk rfl rfl rfl ?_ | refine go_val0 rfl (ldv Tk rfl rfl rfl) rfl ?_
 refine go_nil ?_
 refine go_env [(3, _), (5, _), (6, _), (10, _), (11, _), (12, _)] ⟨rfl, rfl, rfl, rfl, rfl, rfl, trivial⟩ ?_
 refine go_block ?_
 refine go_loop' (X := Nat × List Int × List Bool) (fun z => [(12, .int .i64 (z.1 : Int))]) [(3, _), (5, _), (6, _), (10, _), (11, _)] (fun z => [pt bC 88 (hc z.2.1 z.2.2 [])]) (fun z => z.1 ≤ a.a.length ∧ z.2.1.length = 16 ∧ z.2.2.length = 16 ∧ meetL x.a (few, is) a.a 0 = meetL x.a z.2 (a.a.drop z.1) z.1) (fun z => a.a.length - z.1) ((0, few, is)) ⟨rfl, rfl, rfl, rfl, rfl, rfl, trivial⟩ (by repeat constructor) ⟨by omega, hf, hi, rfl⟩ ?_
 intro ⟨k, f1, i1⟩ ⟨hk, hf1, hi1, hz⟩
 simp only at hk hf1 hi1 hz ⊢
 refine go_seq ?_
 refine go_region rfl ?_
 refine go_pure0 Tk rfl rfl rfl ?_
 refine go_nil ?_
 refine go_env [(3, _), (5, _), (6, _), (10, _), (11, _), (12, _), (13, _)] ⟨rfl, rfl, rfl, rfl, rfl, rfl, rfl, trivial⟩ ?_
 refine go_seq ?_
 refine go_condD rfl ?_ ?_
 ·intro hq1
  iterate 4 first | refine go_skip ?_ | refine go_seq ?_ | refine go_block ?_
  refine go_elem_tm (xs := a.a) (by repeat constructor) (k) (List.getElem?_eq_getElem (by omega)) (fun b1 o1 hA => ?_); cases hA
  refine go_region rfl ?_
  refine go_pure0 Tk rfl rfl rfl ?_
  refine go_val0 rfl (idx_val Tk rfl rfl rfl rfl rfl (by omega)) rfl ?_
  refine go_val0 rfl (ldv Tk rfl rfl rfl) rfl ?_
  refine go_alloc Tk rfl rfl rfl (by rfl) rfl rfl (fun h => nomatch h) ?_
  intro bT
  refine go_pure0 Tk rfl rfl rfl ?_
  refine go_store Tk rfl rfl rfl rfl rfl rfl (by repeat constructor) rfl rfl (by rfl) (fun h => nomatch h) ?_
  refine go_nil ?_
  refine go_freeze_pt (b := bT) (by repeat constructor) ?_
  refine go_env [(3, _), (5, _), (6, _), (7, _), (8, _), (10, _), (11, _), (12, _)] ⟨rfl, rfl, rfl, rfl, rfl, rfl, rfl, rfl, trivial⟩ ?_
  refine go_seq ?_
  refine go_region rfl ?_
  refine go_pure0 Tk rfl rfl rfl ?_
  refine go_val0 rfl (ldv Tk rfl rfl rfl) rfl ?_
  refine go_nil ?_
  refine go_env [(3, _), (5, _), (6, _), (7, _), (8, _), (10, _), (11, _), (12, _), (18, _)] ⟨rfl, rfl, rfl, rfl, rfl, rfl, rfl, rfl, rfl, trivial⟩ ?_
  refine go_cond rfl ?_ ?_
  ·intro g1
   (try simp only [decide_eq_true_eq, decide_eq_false_iff_not, Bool.not_eq_true', Bool.not_eq_false', Bool.not_eq_eq_eq_not, Bool.not_true, Bool.not_false, Int.not_lt, Int.not_le, beq_iff_eq, beq_eq_false_iff_ne, ne_eq] at g1)
   obtain ⟨j, hj, hj16⟩ : ∃ j : Nat, a.a[k].n = (j : Int) ∧ j < 16 := ⟨a.a[k].n.toNat, by have := hv _ (List.getElem_mem _) g1; omega, by have := hv _ (List.getElem_mem _) g1; omega⟩
   refine go_elem_int (xs := x.a) (by repeat constructor) (k) (List.getElem?_eq_getElem (by omega)) (fun b2 o2 hA => ?_); cases hA
   refine go_draw ([cl bT 0 [.bool a.a[k].v, .int .u32 a.a[k].n], cl bX 0 [.int .u32 x.p, .slice (some ⟨b2, o2, none⟩) x.a.length c], cl b2 (o2 + k * 1) [.int .u32 x.a[k]]]) ([]) [1, 3, 5, 8] (SL.pre [(1, 0), (1, 2), (1, 4), (1, 6), (1, 9), (1, 12), (2, 1), (2, 3), (2, 5), (1, 7), (2, 8), (1, 10), (0, 11), (1, 13), (0, 14)] .nil) mixed rfl (by kernel_rfl) ?_
   iterate 7 first | refine go_pure1 Tk rfl rfl rfl ?_ | refine go_val2a rfl (ldv Tk rfl rfl rfl) rfl ?_
   refine go_re 20 (.int .u32 (j : Int)) (by show some (Value.int _ _) = _; rw [hj]) ?_
   refine go_val2a rfl (ldv Tk rfl rfl rfl) rfl ?_
   refine go_re 22 (.int .u32 (j : Int)) (by show some (Value.int _ _) = _; rw [hj]) ?_
   refine go_val2a rfl (ldv Tk rfl rfl rfl) rfl ?_
   refine go_val1 rfl (idx_val Tk rfl rfl rfl rfl rfl (by omega)) rfl ?_
   refine go_val2a rfl (ldv Tk rfl rfl rfl) rfl ?_
   refine go_val1 rfl (idxA_val Tk rfl rfl rfl rfl rfl (by omega)) rfl ?_
   refine go_store Tk rfl rfl rfl rfl rfl rfl (by repeat constructor) rfl rfl (hc_put_few (j := j) (by omega) (by show 0 + 0 + j * 1 = j; omega)) (fun _ => satA) ?_
   refine go_val1 rfl (idxA_val Tk rfl rfl rfl rfl rfl (by omega)) rfl ?_
   refine go_store Tk rfl rfl rfl rfl rfl rfl (by repeat constructor) rfl rfl (hc_put_is (j := j) (by omega) (by show 0 + 16 + j * 1 = _; rw [List.length_set]; omega)) (fun h => nomatch h) ?_
   refine go_nil ?_
   refine go_env [(3, _), (5, _), (6, _), (10, _), (11, _), (12, _)] ⟨rfl, rfl, rfl, rfl, rfl, rfl, trivial⟩ ?_
   refine go_blk ?_
   iterate 3 first | refine go_region rfl ?_ | refine go_pure0 Tk rfl rfl rfl ?_
   refine go_nil ?_
   refine go_i64 12 rfl (by omega) (by omega) ?_
   refine go_back (k + 1, f1.set j x.a[k], i1.set j true) ⟨rfl, rfl, rfl, rfl, rfl, rfl, trivial⟩ (by repeat constructor) (by repeat constructor) ⟨by show k + 1 ≤ _; omega, by simpa using hf1, by simpa using hi1, by rw [hz, List.drop_eq_getElem_cons (by omega), meetL, if_pos g1, hj, Int.toNat_natCast, List.getElem?_eq_getElem (by omega)]; rfl⟩ (by show a.a.length - (k + 1) < a.a.length - k; omega)
  ·intro g1
   (try simp only [decide_eq_true_eq, decide_eq_false_iff_not, Bool.not_eq_true', Bool.not_eq_false', Bool.not_eq_eq_eq_not, Bool.not_true, Bool.not_false, Int.not_lt, Int.not_le, beq_iff_eq, beq_eq_false_iff_ne, ne_eq] at g1)
   refine go_skip ?_
   refine go_blk ?_
   iterate 3 first | refine go_region rfl ?_ | refine go_pure0 Tk rfl rfl rfl ?_
   refine go_nil ?_
   refine go_i64 12 rfl (by omega) (by omega) ?_
   refine go_back (k + 1, f1, i1) ⟨rfl, rfl, rfl, rfl, rfl, rfl, trivial⟩ (by repeat constructor) (by repeat constructor) ⟨by show k + 1 ≤ _; omega, hf1, hi1, by rw [hz, List.drop_eq_getElem_cons (by omega), meetL, if_neg (by rw [g1]; decide)]⟩ (by show a.a.length - (k + 1) < a.a.length - k; omega)
 ·intro hq1
  refine go_exit rfl ?_
  refine go_seq ?_
  refine go_region rfl ?_
  refine go_val0 rfl (load_val (cs := hc f1 i1 []) Tk rfl rfl rfl (at_all (by repeat constructor) (hc_len hf1 hi1)) rfl) rfl ?_
  refine go_store (cs' := hc f1 i1 []) Tk rfl rfl rfl rfl rfl rfl (by repeat constructor) (beq_of (hc_len hf1 hi1)) (hc_one _ _) (putL_whole (by rw [show (cellsL (.agg (hc f1 i1 []).toArray)).length = 32 from hc_len hf1 hi1]; rfl)) (fun h => nomatch h) ?_
  refine go_nil ?_
  refine go_env [(6, _)] ⟨rfl, trivial⟩ ?_
  refine go_ret ⟨rfl, rfl⟩ _ _ (res1 (by rfl) (.cell rfl (reads_at Tk rfl (at_all (by repeat constructor) (hc_len hf1 hi1)) (by rfl)))) ⟨by rw [hz, List.drop_eq_nil_of_le (by omega)]; rfl, rfl, rfl⟩ (by repeat constructor) (by repeat constructor)

end Go.Proofs.Ytkhddfknpegpmaa.SL

/- Plain laws of what is asked of facts: what the statements of stage 16 say. -/
set_option linter.unusedVariables false
set_option linter.unusedSimpArgs false
namespace Go.Proofs.Ytkhddfknpegpmaa.SL
theorem fof_snoc (l : List Fa) (x : Fa) : fof (l ++ [x]) = fput (fof l) x := by unfold fof; rw [List.foldl_append]; rfl
/-! ### a symbol in place of a variable -/
def subT (t : Tm) (s : Int) (x : Tm) : Tm := if x = t then ⟨false, s⟩ else x
def subA (a : Am) (t : Tm) (s : Int) : Am := ⟨a.p, a.a.map (subT t s)⟩
def args (l : List Fa) : List Int := l.flatMap fun x => x.a
/-- So many match with each symbol in place of the variable. -/
noncomputable def parts (l : List Fa) (a : Am) (t : Tm) (S : List Int) : Nat := (S.map fun s => (fof (l.filter (mtch (subA a t s)))).length).sum
end Go.Proofs.Ytkhddfknpegpmaa.SL

/- What a clause says of facts: by choices gone through, and by valuations. -/
set_option linter.unusedVariables false
set_option linter.unusedSimpArgs false
namespace Go.Proofs.Ytkhddfknpegpmaa.SL
section
variable {C : Ctx} {k : List It} {E : Env} {Ps : List PA} {Os : List OA} {ops : Array Oper} {S : World → Prop} {o : Oper} {r : Pl} {f : Bool}
theorem go_skip0f (hw : wants ops E o = some false) (hS : ∀ w hp ho, Sat w hp ho Ps Os → S w) (hd : okDst C.N o.dst = true) (g : Go C (.ops ops S r :: k) (setE o.dst undef E) Ps Os) : Go C (.ops ops S (.one 0 f o r) :: k) E Ps Os := fun a w hp ho hf hs hb => by
  show rwp _ _ _ _ _ _ _
  rw [rwp, if_neg (by rw [wants_eq hf hw]; simp)]
  exact ⟨fun _ => hS w hp ho hs, g _ w hp ho (hf.put hd undef) hs hb⟩
/-- One thing that is owned, said in other words. -/
theorem go_same {A B : OA} {rr : List OA} (h : Rem A Os rr) (e : A = B) (g : Go C k E Ps (B :: rr)) : Go C k E Ps Os := go_imp A [B] h (fun _ _ q => sep_one (e ▸ q)) g
end
/-- A choice: symbols, and which variables have one. -/
abbrev Ch := List Int × List Bool
def ch0 : Ch := (List.replicate 16 0, List.replicate 16 false)
structure Ch.ok (c : Ch) : Prop where
  f : c.1.length = 16
  i : c.2.length = 16
theorem ch0_ok : ch0.ok := ⟨by simp [ch0], by simp [ch0]⟩
/-- The variables of a list of terms are few. -/
def vok (a : Am) : Prop := ∀ t ∈ a.a, t.v = true → 0 ≤ t.n ∧ t.n < 16
theorem meetL_ok (f : List Int) : ∀ (l : List Tm) (c : Ch) (i : Nat), c.ok → Ch.ok (meetL f c l i)
  | [], c, i, h => h
  | t :: l, c, i, h => by
    unfold meetL
    refine meetL_ok f l _ (i + 1) ?_
    split
    · exact ⟨by simpa using h.f, by simpa using h.i⟩
    · exact h
/-- A valuation agrees with a choice. -/
def agC (c : Ch) (s : Int → Int) : Prop := ∀ j : Nat, c.2[j]? = some true → s (j : Int) = (c.1[j]?).getD 0
theorem agC0 (s : Int → Int) : agC ch0 s := fun j h => by
  simp only [ch0, List.getElem?_replicate] at h
  split at h <;> simp at h
/-- A variable has a symbol. -/
def domC (c : Ch) (n : Int) : Prop := 0 ≤ n ∧ c.2[n.toNat]? = some true
theorem ap_eq {s s' : Int → Int} {a : Am} (h : ∀ t ∈ a.a, t.v = true → s t.n = s' t.n) : ap s a = ap s' a := by
  unfold ap
  congr 1
  refine List.map_congr_left fun t ht => ?_
  unfold tv
  split
  · rename_i e; exact h t ht e
  · rfl
theorem ap_inj {s s' : Int → Int} {a : Am} (h : ap s a = ap s' a) : ∀ t ∈ a.a, t.v = true → s t.n = s' t.n := fun t ht e => by
  have h1 : a.a.map (tv s) = a.a.map (tv s') := by injection h
  have := List.map_inj_left.1 h1 t ht
  simpa [tv, e] using this
/-- A valuation with a choice put over it. -/
def over (c : Ch) (s : Int → Int) : Int → Int := fun n => if c.2[n.toNat]? = some true then (c.1[n.toNat]?).getD 0 else s n
theorem over_ag (c : Ch) (s : Int → Int) : agC c (over c s) := fun j h => by unfold over; rw [Int.toNat_natCast, if_pos h]
theorem ap_put {c : Ch} {s : Int → Int} {a : Am} : ap s (putA c.1 c.2 a) = ap (over c s) a := by
  unfold ap putA
  simp only [List.map_map]
  congr 1
  refine List.map_congr_left fun t ht => ?_
  simp only [Function.comp]
  unfold putT tv over
  by_cases e : t.v = true
  · by_cases g : c.2[t.n.toNat]? = some true
    · simp [e, g]
    · simp [e, g]
  · simp [e]
theorem over_of {c : Ch} {s : Int → Int} {a : Am} (hv : vok a) (h : agC c s) : ap (over c s) a = ap s a := ap_eq fun t ht e => by
  unfold over
  split
  · rename_i g
    have := h t.n.toNat g
    rw [Int.toNat_of_nonneg (hv t ht e).1] at this
    exact this.symm
  · rfl
theorem mtch_put {c : Ch} {a : Am} {f : Fa} (hv : vok a) : mtch (putA c.1 c.2 a) f = true ↔ ∃ s, agC c s ∧ f = ap s a := by
  unfold mtch
  rw [decide_eq_true_iff]
  constructor
  · rintro ⟨s, rfl⟩; exact ⟨over c s, over_ag c s, ap_put⟩
  · rintro ⟨s, h, rfl⟩; exact ⟨s, by rw [ap_put, over_of hv h]⟩
theorem set_at {α : Type} (l : List α) (i j : Nat) (x : α) : (l.set i x)[j]? = if i = j ∧ i < l.length then some x else l[j]? := by
  rw [List.getElem?_set]
  by_cases e : i = j
  · subst e
    by_cases g : i < l.length
    · simp [g]
    · rw [if_pos rfl, if_neg g, if_neg (fun q => g q.2), List.getElem?_eq_none (by omega)]
  · rw [if_neg e, if_neg (fun q => e q.1)]
/-- What a choice becomes by a match. -/
theorem meet_ag (s0 s : Int → Int) : ∀ (l : List Tm) (c : Ch) (f : List Int) (i : Nat), (∀ t ∈ l, t.v = true → 0 ≤ t.n ∧ t.n < 16) → c.ok → agC c s0 → f.drop i = l.map (tv s0) →
    (agC (meetL f c l i) s ↔ agC c s ∧ ∀ t ∈ l, t.v = true → s t.n = s0 t.n)
  | [], c, f, i, _, _, _, _ => by unfold meetL; simp
  | t :: l, c, f, i, hv, hc, hs, hf => by
    unfold meetL
    have hi : i < f.length := by
      have := congrArg List.length hf
      simp at this; omega
    rw [List.drop_eq_getElem_cons hi, List.map_cons, List.cons.injEq] at hf
    have hg : (f[i]?).getD 0 = tv s0 t := by rw [List.getElem?_eq_getElem hi, hf.1]; rfl
    by_cases e : t.v = true
    · rw [if_pos e]
      obtain ⟨h0, h16⟩ := hv t (.head _) e
      have hj : t.n.toNat < 16 := by omega
      have key : ∀ s', agC (c.1.set t.n.toNat ((f[i]?).getD 0), c.2.set t.n.toNat true) s' ↔ s' t.n = s0 t.n ∧ ∀ j : Nat, j ≠ t.n.toNat → c.2[j]? = some true → s' (j : Int) = (c.1[j]?).getD 0 := fun s' => by
        unfold agC
        simp only [set_at, hc.f, hc.i, hj, and_true]
        constructor
        · intro h
          refine ⟨?_, fun j hj' q => ?_⟩
          · have := h t.n.toNat (by simp)
            rw [Int.toNat_of_nonneg h0] at this
            rw [this]; simp [hg, tv, e]
          · have := h j (by rw [if_neg (fun q => hj' q.symm)]; exact q)
            rwa [if_neg (fun q => hj' q.symm)] at this
        · rintro ⟨h1, h2⟩ j q
          by_cases ej : t.n.toNat = j
          · subst ej
            rw [Int.toNat_of_nonneg h0, h1]; simp [hg, tv, e]
          · rw [if_neg ej] at q ⊢
            exact h2 j (fun q => ej q.symm) q
      have hs1 : agC (c.1.set t.n.toNat ((f[i]?).getD 0), c.2.set t.n.toNat true) s0 := (key s0).2 ⟨rfl, fun j _ q => hs j q⟩
      rw [meet_ag s0 s l _ f (i + 1) (fun t ht => hv t (.tail _ ht)) ⟨by simpa using hc.f, by simpa using hc.i⟩ hs1 hf.2, key s]
      constructor
      · rintro ⟨⟨h1, h2⟩, h3⟩
        refine ⟨fun j q => ?_, fun x hx ex => ?_⟩
        · by_cases ej : j = t.n.toNat
          · subst ej
            rw [← hs _ q, Int.toNat_of_nonneg h0, h1]
          · exact h2 j ej q
        · rcases List.mem_cons.1 hx with rfl | hx
          · exact h1
          · exact h3 x hx ex
      · rintro ⟨h1, h2⟩
        exact ⟨⟨h2 t (.head _) e, fun j _ q => h1 j q⟩, fun x hx ex => h2 x (.tail _ hx) ex⟩
    · rw [if_neg e, meet_ag s0 s l c f (i + 1) (fun t ht => hv t (.tail _ ht)) hc hs hf.2]
      constructor
      · rintro ⟨h1, h2⟩
        exact ⟨h1, fun x hx ex => (List.mem_cons.1 hx).elim (fun q => absurd (q ▸ ex) e) (fun q => h2 x q ex)⟩
      · rintro ⟨h1, h2⟩
        exact ⟨h1, fun x hx ex => h2 x (.tail _ hx) ex⟩
theorem meet_dom : ∀ (l : List Tm) (c : Ch) (f : List Int) (i : Nat) (n : Int), (∀ t ∈ l, t.v = true → 0 ≤ t.n ∧ t.n < 16) → c.ok → (domC (meetL f c l i) n ↔ domC c n ∨ ∃ t ∈ l, t.v = true ∧ t.n = n)
  | [], c, f, i, n, _, _ => by unfold meetL; simp
  | t :: l, c, f, i, n, hv, hc => by
    unfold meetL
    by_cases e : t.v = true
    · rw [if_pos e]
      obtain ⟨h0, h16⟩ := hv t (.head _) e
      rw [meet_dom l _ f (i + 1) n (fun t ht => hv t (.tail _ ht)) ⟨by simpa using hc.f, by simpa using hc.i⟩]
      have : domC (c.1.set t.n.toNat ((f[i]?).getD 0), c.2.set t.n.toNat true) n ↔ domC c n ∨ t.n = n := by
        unfold domC
        simp only [set_at, hc.i, show t.n.toNat < 16 by omega, and_true]
        constructor
        · rintro ⟨g1, g2⟩
          by_cases ej : t.n.toNat = n.toNat
          · exact .inr (by omega)
          · rw [if_neg ej] at g2; exact .inl ⟨g1, g2⟩
        · rintro (⟨g1, g2⟩ | rfl)
          · refine ⟨g1, ?_⟩; split
            · rfl
            · exact g2
          · exact ⟨h0, by simp⟩
      rw [this]
      simp only [List.mem_cons, exists_eq_or_imp, e, true_and]
      rw [or_assoc]
    · rw [if_neg e, meet_dom l c f (i + 1) n (fun t ht => hv t (.tail _ ht)) hc]
      simp only [List.mem_cons, exists_eq_or_imp, e, false_and, false_or]
      simp
theorem ofA_put {c : Ch} {s : Int → Int} {a : Am} (hv : vok a) (h : agC c s) (hd : ∀ t ∈ a.a, t.v = true → domC c t.n) : ofA (putA c.1 c.2 a) = ap s a := by
  have hg : ∀ t ∈ (putA c.1 c.2 a).a, t.v = false := fun t ht => by
    simp only [putA, List.mem_map] at ht
    obtain ⟨u, hu, rfl⟩ := ht
    unfold putT
    by_cases e : u.v = true
    · rw [if_pos ⟨e, (hd u hu e).2⟩]
    · rw [if_neg (fun q => e q.1)]; simpa using e
  have hgr : ground (putA c.1 c.2 a) = true := by
    unfold ground
    simp only [Bool.not_eq_true', List.any_eq_false, Bool.not_eq_true]
    exact hg
  rw [ofA, if_pos hgr, ← over_of hv h, ← ap_put (s := s)]
  unfold ap
  congr 1
  refine List.map_congr_left fun t ht => ?_
  simp [tv, hg t ht]
/-- Nothing of what is Not is there. -/
def okN (N : List Fa) (b : List Li) (c : Ch) : Bool := !(b.any fun l => l.no && decide (ofA (putA c.1 c.2 l.a) ∈ N))
/-- The heads, in the order in which they are found. -/
noncomputable def goL (c : Cl) (F R N : List Fa) : List Li → Ch → Bool → List Fa
  | [], ch, new => if okN N c.b ch = true ∧ new = true then [ofA (putA ch.1 ch.2 c.h)] else []
  | l :: r, ch, new => if l.no = true then goL c F R N r ch new else (F.filter (mtch (putA ch.1 ch.2 l.a))).flatMap fun f => goL c F R N r (meetL f.a ch l.a.a 0) (new || decide (f ∈ R))
/-- A head, by a valuation. -/
def Hd (c : Cl) (F R N : Fa → Prop) (some : Bool) (x : Fa) : Prop :=
  ∃ s, (∀ l ∈ c.b, l.no = false → F (ap s l.a)) ∧ (∀ l ∈ c.b, l.no = true → ¬ N (ap s l.a)) ∧ (some = true → ∃ l ∈ c.b, l.no = false ∧ R (ap s l.a)) ∧ x = ap s c.h
structure RightC (c : Cl) : Prop where
  vh : vok c.h
  vb : ∀ l ∈ c.b, vok l.a
  held : ∀ t ∈ c.h.a, t.v = true → t.n ∈ heldBy c
  heldN : ∀ l ∈ c.b, l.no = true → ∀ t ∈ l.a.a, t.v = true → t.n ∈ heldBy c
theorem mem_vars {a : Am} {n : Int} : n ∈ vars a ↔ ∃ t ∈ a.a, t.v = true ∧ t.n = n := by
  unfold vars
  simp only [List.mem_map, List.mem_filter]
  constructor
  · rintro ⟨t, ⟨h1, h2⟩, h3⟩; exact ⟨t, h1, h2, h3⟩
  · rintro ⟨t, h1, h2, h3⟩; exact ⟨t, ⟨h1, h2⟩, h3⟩
theorem mem_heldBy {c : Cl} {n : Int} : n ∈ heldBy c ↔ ∃ l ∈ c.b, l.no = false ∧ ∃ t ∈ l.a.a, t.v = true ∧ t.n = n := by
  unfold heldBy
  simp only [List.mem_flatMap, List.mem_filter, mem_vars]
  constructor
  · rintro ⟨l, ⟨h1, h2⟩, h3⟩; exact ⟨l, h1, by simpa using h2, h3⟩
  · rintro ⟨l, h1, h2, h3⟩; exact ⟨l, ⟨h1, by simpa using h2⟩, h3⟩
theorem mem_goL {c : Cl} (hc : RightC c) (F R N : List Fa) (x : Fa) : ∀ (r : List Li) (ch : Ch) (new : Bool), (∀ l ∈ r, l ∈ c.b) → ch.ok → (∀ n ∈ heldBy c, domC ch n ∨ ∃ l ∈ r, l.no = false ∧ ∃ t ∈ l.a.a, t.v = true ∧ t.n = n) →
    (x ∈ goL c F R N r ch new ↔ ∃ s, agC ch s ∧ (∀ l ∈ r, l.no = false → ap s l.a ∈ F) ∧ (∀ l ∈ c.b, l.no = true → ¬ ap s l.a ∈ N) ∧ (new = true ∨ ∃ l ∈ r, l.no = false ∧ ap s l.a ∈ R) ∧ x = ap s c.h)
  | [], ch, new, _, hok, hd => by
    unfold goL
    have hd' : ∀ n ∈ heldBy c, domC ch n := fun n hn => by
      rcases hd n hn with h | ⟨l, hl, _⟩
      · exact h
      · cases hl
    have hN : ∀ s, agC ch s → (okN N c.b ch = true ↔ ∀ l ∈ c.b, l.no = true → ¬ ap s l.a ∈ N) := fun s hs => by
      unfold okN
      simp only [Bool.not_eq_true', List.any_eq_false, Bool.and_eq_true, decide_eq_true_eq, not_and]
      constructor
      · intro h l hl e; rw [← ofA_put (hc.vb l hl) hs (fun t ht et => hd' _ (hc.heldN l hl e t ht et))]; exact h l hl e
      · intro h l hl e; rw [ofA_put (hc.vb l hl) hs (fun t ht et => hd' _ (hc.heldN l hl e t ht et))]; exact h l hl e
    have hH : ∀ s, agC ch s → ofA (putA ch.1 ch.2 c.h) = ap s c.h := fun s hs => ofA_put hc.vh hs fun t ht et => hd' _ (hc.held t ht et)
    constructor
    · intro h
      split at h
      · rename_i g
        refine ⟨over ch fun _ => 0, over_ag _ _, (fun l hl => nomatch hl), (hN _ (over_ag _ _)).1 g.1, .inl g.2, ?_⟩
        rw [List.mem_singleton] at h
        rw [h, hH _ (over_ag _ _)]
      · cases h
    · rintro ⟨s, h1, _, h3, h4, h5⟩
      have h4' : new = true := h4.elim id fun ⟨l, hl, _⟩ => nomatch hl
      rw [if_pos ⟨(hN s h1).2 h3, h4'⟩, List.mem_singleton, hH s h1, h5]
  | l :: r, ch, new, hr, hok, hd => by
    unfold goL
    by_cases e : l.no = true
    · rw [if_pos e, mem_goL hc F R N x r ch new (fun m hm => hr m (.tail _ hm)) hok (fun n hn => (hd n hn).imp id fun ⟨m, hm, h1, h2⟩ => by
        rcases List.mem_cons.1 hm with rfl | hm
        · rw [e] at h1; cases h1
        · exact ⟨m, hm, h1, h2⟩)]
      constructor
      · rintro ⟨s, h1, h2, h3, h4, h5⟩
        exact ⟨s, h1, fun m hm hn => (List.mem_cons.1 hm).elim (fun q => by rw [q, e] at hn; cases hn) (fun q => h2 m q hn), h3, h4.imp id fun ⟨m, hm, q⟩ => ⟨m, .tail _ hm, q⟩, h5⟩
      · rintro ⟨s, h1, h2, h3, h4, h5⟩
        exact ⟨s, h1, fun m hm hn => h2 m (.tail _ hm) hn, h3, h4.imp id fun ⟨m, hm, q⟩ => by
          rcases List.mem_cons.1 hm with rfl | hm
          · rw [e] at q; cases q.1
          · exact ⟨m, hm, q⟩, h5⟩
    · have e' : l.no = false := by simpa using e
      have hvl := hc.vb l (hr l (.head _))
      rw [if_neg e, List.mem_flatMap]
      have step : ∀ (s0 : Int → Int), agC ch s0 → ∀ s, agC (meetL (ap s0 l.a).a ch l.a.a 0) s ↔ agC ch s ∧ ap s l.a = ap s0 l.a := fun s0 h0 s => by
        rw [meet_ag s0 s l.a.a ch (ap s0 l.a).a 0 hvl hok h0 rfl]
        exact ⟨fun ⟨h1, h2⟩ => ⟨h1, ap_eq h2⟩, fun ⟨h1, h2⟩ => ⟨h1, ap_inj h2⟩⟩
      have ih : ∀ f, x ∈ goL c F R N r (meetL f.a ch l.a.a 0) (new || decide (f ∈ R)) ↔ _ := fun f => mem_goL hc F R N x r (meetL f.a ch l.a.a 0) (new || decide (f ∈ R)) (fun m hm => hr m (.tail _ hm)) (meetL_ok _ _ _ _ hok) (fun n hn => by
        rw [meet_dom l.a.a ch f.a 0 n hvl hok]
        rcases hd n hn with h | ⟨m, hm, h1, h2⟩
        · exact .inl (.inl h)
        · rcases List.mem_cons.1 hm with rfl | hm
          · exact .inl (.inr h2)
          · exact .inr ⟨m, hm, h1, h2⟩)
      constructor
      · rintro ⟨f, hf, hx⟩
        rw [List.mem_filter, mtch_put hvl] at hf
        obtain ⟨hF, s0, hs0, rfl⟩ := hf
        rw [ih] at hx
        obtain ⟨s, h1, h2, h3, h4, h5⟩ := hx
        obtain ⟨g1, g2⟩ := (step s0 hs0 s).1 h1
        refine ⟨s, g1, fun m hm hn => ?_, h3, ?_, h5⟩
        · rcases List.mem_cons.1 hm with rfl | hm
          · rw [g2]; exact hF
          · exact h2 m hm hn
        · rcases h4 with h4 | ⟨m, hm, q⟩
          · rw [Bool.or_eq_true, decide_eq_true_eq] at h4
            exact h4.imp id fun h4 => ⟨l, .head _, e', by rw [g2]; exact h4⟩
          · exact .inr ⟨m, .tail _ hm, q⟩
      · rintro ⟨s, h1, h2, h3, h4, h5⟩
        refine ⟨ap s l.a, ?_, ?_⟩
        · rw [List.mem_filter, mtch_put hvl]
          exact ⟨h2 l (.head _) e', s, h1, rfl⟩
        · rw [ih]
          refine ⟨s, (step s h1 s).2 ⟨h1, rfl⟩, fun m hm hn => h2 m (.tail _ hm) hn, h3, ?_, h5⟩
          rw [Bool.or_eq_true, decide_eq_true_eq]
          rcases h4 with h4 | ⟨m, hm, q⟩
          · exact .inl (.inl h4)
          · rcases List.mem_cons.1 hm with rfl | hm
            · exact .inl (.inr q.2)
            · exact .inr ⟨m, hm, q⟩
/-- All heads, in order. -/
noncomputable def headsL (c : Cl) (F R N : List Fa) (some : Bool) : List Fa := fof (goL c F R N c.b ch0 (!some))
theorem mem_headsL {c : Cl} (hc : RightC c) {F R N : List Fa} {some : Bool} {x : Fa} : x ∈ headsL c F R N some ↔ Hd c (· ∈ F) (· ∈ R) (· ∈ N) some x := by
  unfold headsL
  rw [mem_fof, mem_goL hc F R N x c.b ch0 (!some) (fun l hl => hl) ch0_ok (fun n hn => .inr (mem_heldBy.1 hn))]
  unfold Hd
  constructor
  · rintro ⟨s, _, h2, h3, h4, h5⟩
    refine ⟨s, h2, h3, fun e => ?_, h5⟩
    subst e
    exact h4.elim (fun q => by cases q) id
  · rintro ⟨s, h2, h3, h4, h5⟩
    refine ⟨s, agC0 s, h2, h3, ?_, h5⟩
    cases some
    · exact .inl rfl
    · exact .inr (h4 rfl)
theorem goL_len (c : Cl) (F R N : List Fa) : ∀ (r : List Li) (ch : Ch) (new : Bool), (goL c F R N r ch new).length ≤ F.length ^ (r.filter fun l => !l.no).length
  | [], ch, new => by unfold goL; split <;> simp
  | l :: r, ch, new => by
    unfold goL
    by_cases e : l.no = true
    · rw [if_pos e, List.filter_cons_of_neg (by simp [e])]
      exact goL_len c F R N r ch new
    · rw [if_neg e, List.filter_cons_of_pos (by simpa using e), List.length_cons, Nat.pow_succ, Nat.mul_comm]
      have key : ∀ X : List Fa, (X.flatMap fun f => goL c F R N r (meetL f.a ch l.a.a 0) (new || decide (f ∈ R))).length ≤ X.length * F.length ^ (r.filter fun l => !l.no).length := fun X => by
        induction X with
        | nil => simp
        | cons y X ih =>
          rw [List.flatMap_cons, List.length_append, List.length_cons, Nat.add_mul, Nat.one_mul, Nat.add_comm]
          exact Nat.add_le_add ih (goL_len c F R N r _ _)
      exact Nat.le_trans (key _) (Nat.mul_le_mul_right _ (List.length_filter_le _ _))
end Go.Proofs.Ytkhddfknpegpmaa.SL

/- Contracts of functions of the program (Joine): what each call comes to, for the laws' proofs. -/
set_option linter.unusedVariables false
set_option linter.unusedSimpArgs false
namespace Go.Proofs.Ytkhddfknpegpmaa.SL
open Go 

/-- What is needed of a clause and of facts for the walk. -/
structure JoinH (c : Cl) (F R N : List Fa) : Prop where
  vh : vok c.h
  vb : ∀ l ∈ c.b, vok l.a
  lh : c.h.a.length ≤ 12
  lb : ∀ l ∈ c.b, l.a.a.length ≤ 12
  nn : ∀ l ∈ c.b, ∀ t ∈ l.a.a, 0 ≤ t.n
  nF : F.length ≤ 50000000
  bF : ∀ x ∈ F, x.a.length ≤ 100000
  oF : ∀ x ∈ F, ∀ n ∈ x.a, 0 ≤ n
  rR : rises R
  nR : R.length ≤ 50000000
  rN : rises N
  nN : N.length ≤ 50000000
theorem putA_len (few : List Int) (is : List Bool) (a : Am) : (putA few is a).a.length = a.a.length := by simp [putA]
theorem ofA_len (a : Am) : (ofA a).a.length ≤ a.a.length := by unfold ofA; split <;> simp
theorem putA_nn {few : List Int} {is : List Bool} {a : Am} (hf : ∀ v ∈ few, 0 ≤ v) (ha : ∀ t ∈ a.a, 0 ≤ t.n) : ∀ t ∈ (putA few is a).a, 0 ≤ t.n := fun t ht => by
  simp only [putA, List.mem_map] at ht
  obtain ⟨u, hu, rfl⟩ := ht
  unfold putT
  split
  · show 0 ≤ (few[u.n.toNat]?).getD 0
    cases e : few[u.n.toNat]? with
    | none => simp
    | some v => exact hf v (List.mem_of_getElem? e)
  · exact ha u hu
theorem meetL_nn (f : List Int) (hf : ∀ n ∈ f, 0 ≤ n) : ∀ (l : List Tm) (c : Ch) (i : Nat), (∀ v ∈ c.1, 0 ≤ v) → ∀ v ∈ (meetL f c l i).1, 0 ≤ v
  | [], c, i, h => h
  | t :: l, c, i, h => by
    unfold meetL
    refine meetL_nn f hf l _ (i + 1) ?_
    split
    · intro v hv
      rcases List.mem_or_eq_of_mem_set hv with hv | rfl
      · exact h v hv
      · cases e : f[i]? with
        | none => simp
        | some v => exact hf v (List.mem_of_getElem? e)
    · exact h
noncomputable abbrev goF (c : Cl) (F R N : List Fa) (i : Nat) (few : List Int) (is : List Bool) (new : Bool) (f : Fa) : List Fa := goL c F R N (c.b.drop (i + 1)) (meetL f.a (few, is) (c.b[i]?.getD ⟨false, ⟨0, []⟩⟩).a.a 0) (new || decide (f ∈ R))
theorem goL_not {c : Cl} {F R N : List Fa} {i : Nat} (hi : i < c.b.length) (e : c.b[i].no = true) (ch : Ch) (new : Bool) : goL c F R N (c.b.drop i) ch new = goL c F R N (c.b.drop (i + 1)) ch new := by
  rw [List.drop_eq_getElem_cons hi, goL, if_pos e]
theorem goL_yes {c : Cl} {F R N : List Fa} {i : Nat} (hi : i < c.b.length) (e : c.b[i].no = false) (few : List Int) (is : List Bool) (new : Bool) : goL c F R N (c.b.drop i) (few, is) new = (F.filter (mtch (putA few is c.b[i].a))).flatMap (goF c F R N i few is new) := by
  rw [List.drop_eq_getElem_cons hi, goL, if_neg (by rw [e]; decide)]
  unfold goF
  rw [List.getElem?_eq_getElem hi]; rfl
theorem goL_end {c : Cl} {F R N : List Fa} {i : Nat} (hi : c.b.length ≤ i) (ch : Ch) (new : Bool) : goL c F R N (c.b.drop i) ch new = if okN N c.b ch = true ∧ new = true then [ofA (putA ch.1 ch.2 c.h)] else [] := by
  rw [List.drop_eq_nil_of_le hi, goL]
theorem flat_next {α β : Type} {l : List α} {k : Nat} (hk : k < l.length) (g : α → List β) : (l.take (k + 1)).flatMap g = (l.take k).flatMap g ++ g l[k] := by
  rw [List.take_succ_eq_append_getElem hk, List.flatMap_append]; simp
theorem flat_len {α β : Type} {l : List α} {k : Nat} (hk : k < l.length) (g : α → List β) : ((l.take k).flatMap g).length + (g l[k]).length ≤ (l.flatMap g).length := by
  rw [← List.length_append, ← flat_next hk]
  conv => rhs; rw [← List.take_append_drop (k + 1) l, List.flatMap_append, List.length_append]
  omega
theorem okN_no {N : List Fa} {b : List Li} {c : Ch} {k : Nat} (hk : k < b.length) (e : b[k].no = true) (h : ofA (putA c.1 c.2 b[k].a) ∈ N) : okN N b c = false := by
  unfold okN
  rw [Bool.not_eq_false', List.any_eq_true]
  exact ⟨b[k], List.getElem_mem hk, by rw [e, decide_eq_true h]; rfl⟩
theorem okN_yes {N : List Fa} {b : List Li} {c : Ch} {k : Nat} (hk : b.length ≤ k) (h : ∀ l ∈ b.take k, ¬ (l.no = true ∧ ofA (putA c.1 c.2 l.a) ∈ N)) : okN N b c = true := by
  rw [List.take_of_length_le hk] at h
  unfold okN
  rw [Bool.not_eq_true', List.any_eq_false]
  intro l hl
  have := h l hl
  simp only [Bool.and_eq_true, decide_eq_true_eq]
  exact this

set_option maxHeartbeats 2000000 in
set_option maxRecDepth 20000 in
theorem heads1 (c : Cl) (CA : Option Addr) (cc : Nat) (CB : Option Addr) (cd : Nat) (bC bF bf bg bn bo b : Nat) (pf pg pn : Option Addr) (F R N : List Fa) (H : JoinH c F R N) (i : Nat) (few : List Int) (is : List Bool) (new : Bool) (out : List Fa) (hil : i ≤ c.b.length) (hf : few.length = 16) (hi : is.length = 16) (hv : ∀ v ∈ few, 0 ≤ v) (ho : rises out) (hlen : out.length + (goL c F R N (c.b.drop (i)) (few, is) new).length ≤ 50000000) (ih : i < c.b.length → ∀ (few : List Int) (is : List Bool) (new : Bool) (out : List Fa) (hil : i + 1 ≤ c.b.length) (hf : few.length = 16) (hi : is.length = 16) (hv : ∀ v ∈ few, 0 ≤ v) (ho : rises out) (hlen : out.length + (goL c F R N (c.b.drop (i + 1)) (few, is) new).length ≤ 50000000), Spec Try.prog 48 #[.int .i64 ((i + 1 : Nat) : Int), .agg (hc (few) (is) []).toArray, .bool (new), .pointer (some ⟨bC, 0, none⟩), .pointer (some ⟨bF, 0, none⟩), .pointer (some ⟨bf, 0, none⟩), .pointer (some ⟨bg, 0, none⟩), .pointer (some ⟨bn, 0, none⟩), .pointer (some ⟨bo, 0, none⟩)] [cl bC 0 [.int .u32 c.h.p, .slice CA c.h.a.length cc, .slice CB c.b.length cd], sl tTm CA cc c.h.a, sl tLi CB cd c.b, cl bF 0 [.func (.func 48) #[] #[.pointer (some ⟨bC, 0, none⟩), .pointer (some ⟨bF, 0, none⟩), .pointer (some ⟨bf, 0, none⟩), .pointer (some ⟨bg, 0, none⟩), .pointer (some ⟨bn, 0, none⟩), .pointer (some ⟨bo, 0, none⟩)]], cl bf 0 [.pointer pf], cl bg 0 [.pointer pg], cl bn 0 [.pointer pn], cl bo 0 [.pointer (some ⟨b, 0, none⟩)], relN pf F, relN pg R, relN pn N] [relO b out] (fun v Ps' Os' => v = .tuple #[] ∧ Ps' = [] ∧ Os' = [relO b ((goL c F R N (c.b.drop (i + 1)) (few, is) (new)).foldl fput (out))])) :
    Spec Try.prog 48 #[.int .i64 (i : Int), .agg (hc (few) (is) []).toArray, .bool (new), .pointer (some ⟨bC, 0, none⟩), .pointer (some ⟨bF, 0, none⟩), .pointer (some ⟨bf, 0, none⟩), .pointer (some ⟨bg, 0, none⟩), .pointer (some ⟨bn, 0, none⟩), .pointer (some ⟨bo, 0, none⟩)] [cl bC 0 [.int .u32 c.h.p, .slice CA c.h.a.length cc, .slice CB c.b.length cd], sl tTm CA cc c.h.a, sl tLi CB cd c.b, cl bF 0 [.func (.func 48) #[] #[.pointer (some ⟨bC, 0, none⟩), .pointer (some ⟨bF, 0, none⟩), .pointer (some ⟨bf, 0, none⟩), .pointer (some ⟨bg, 0, none⟩), .pointer (some ⟨bn, 0, none⟩), .pointer (some ⟨bo, 0, none⟩)]], cl bf 0 [.pointer pf], cl bg 0 [.pointer pg], cl bn 0 [.pointer pn], cl bo 0 [.pointer (some ⟨b, 0, none⟩)], relN pf F, relN pg R, relN pn N] [relO b out] (fun v Ps' Os' => v = .tuple #[] ∧ Ps' = [] ∧ Os' = [relO b ((goL c F R N (c.b.drop (i)) (few, is) (new)).foldl fput (out))]) := by
 refine spec_of (fn := Try.f48) (args := [.int .i64 (i : Int), .agg (hc (few) (is) []).toArray, .bool (new), .pointer (some ⟨bC, 0, none⟩), .pointer (some ⟨bF, 0, none⟩), .pointer (some ⟨bf, 0, none⟩), .pointer (some ⟨bg, 0, none⟩), .pointer (some ⟨bn, 0, none⟩), .pointer (some ⟨bo, 0, none⟩)]) 84 Try.func48 rfl (by kernel_rfl) Try.ntmps48 (Nat.le_of_ble_eq_true rfl) (fun w0 hp0 hf0 => ?_)
 refine go_seq ?_
 refine go_region rfl ?_
 refine go_box (cs := hc few is []) Tk rfl rfl rfl rfl (takeL_len (hc_len hf hi)) (beq_of (hc_len hf hi)) rfl (fun h => nomatch h) ?_
 intro bH
 refine go_freeze_pt (b := bH) (by repeat constructor) ?_
 refine go_nil ?_
 refine go_env [(0, _), (2, _), (3, _), (4, _), (5, _), (6, _), (7, _), (8, _), (10, _)] ⟨rfl, rfl, rfl, rfl, rfl, rfl, rfl, rfl, rfl, trivial⟩ ?_
 iterate 2 refine go_seq ?_
 refine go_len (xs := c.b) (by repeat constructor) (fun l0 m0 => ?_)
 iterate 6 first | refine go_region rfl ?_ | refine go_pure0 Tk rfl rfl rfl ?_ | refine go_val0 rfl (ldv Tk rfl rfl rfl) rfl ?_
 refine go_nil ?_
 refine go_env [(0, _), (2, _), (3, _), (4, _), (5, _), (6, _), (7, _), (8, _), (10, _), (21, _)] ⟨rfl, rfl, rfl, rfl, rfl, rfl, rfl, rfl, rfl, rfl, trivial⟩ ?_
 refine go_condD rfl ?_ ?_
 ·intro g0
  refine go_seq ?_
  refine go_elem_li (xs := c.b) (by repeat constructor) (i) (List.getElem?_eq_getElem (by omega)) (fun b0 o0 A0 c0 hA => ?_); cases hA
  iterate 4 first | refine go_region rfl ?_ | refine go_pure0 Tk rfl rfl rfl ?_ | refine go_val0 rfl (ldv Tk rfl rfl rfl) rfl ?_
  refine go_val0 rfl (idx_val Tk rfl rfl rfl rfl rfl (by omega)) rfl ?_
  refine go_val0 rfl (ldv Tk rfl rfl rfl) rfl ?_
  refine go_alloc Tk rfl rfl rfl (by rfl) rfl rfl (fun h => nomatch h) ?_
  intro bL
  refine go_store Tk rfl rfl rfl rfl rfl rfl (by repeat constructor) rfl rfl (by rfl) (fun h => nomatch h) ?_
  refine go_nil ?_
  refine go_freeze_pt (b := bL) (by repeat constructor) ?_
  have hvl := H.vb c.b[i] (List.getElem_mem _)
  have hll := H.lb c.b[i] (List.getElem_mem _)
  have hnl := putA_nn (is := is) hv (H.nn c.b[i] (List.getElem_mem _))
  refine go_env [(0, _), (2, _), (4, _), (5, _), (6, _), (10, _), (12, _)] ⟨rfl, rfl, rfl, rfl, rfl, rfl, rfl, trivial⟩ ?_
  iterate 5 first | refine go_seq ?_ | refine go_region rfl ?_ | refine go_pure0 Tk rfl rfl rfl ?_ | refine go_val0 rfl (ldv Tk rfl rfl rfl) rfl ?_
  refine go_nil ?_
  refine go_env [(0, _), (2, _), (4, _), (5, _), (6, _), (10, _), (12, _), (28, _)] ⟨rfl, rfl, rfl, rfl, rfl, rfl, rfl, rfl, trivial⟩ ?_
  refine go_cond rfl ?_ ?_
  ·intro g1
   (try simp only [decide_eq_true_eq, decide_eq_false_iff_not, Bool.not_eq_true', Bool.not_eq_false', Bool.not_eq_eq_eq_not, Bool.not_true, Bool.not_false, Int.not_lt, Int.not_le, beq_iff_eq, beq_eq_false_iff_ne, ne_eq] at g1)
   have hgo := goL_not (F := F) (R := R) (N := N) (by omega) g1 (few, is) new
   rw [hgo] at hlen
   iterate 5 first | refine go_seq ?_ | refine go_region rfl ?_ | refine go_val0 rfl (ldv Tk rfl rfl rfl) rfl ?_ | refine go_pure0 Tk rfl rfl rfl ?_
   refine go_re 31 (.int .i64 ((i + 1 : Nat) : Int)) (by show some (Value.int _ _) = _; rw [wrap_i64 (by omega) (by omega)]; rfl) ?_
   refine go_val0 rfl (load_val (cs := hc few is []) Tk rfl rfl rfl (at_allcl (by repeat constructor) (hc_len hf hi)) rfl) rfl ?_
   refine go_pure0 Tk rfl rfl rfl ?_
   refine go_call (ih (by omega) few is new out (by omega) hf hi hv ho hlen) rfl rfl (by rfl) rfl (by repeat constructor) (by repeat constructor) (fun h => nomatch h) ?_
   rintro _ _ _ ⟨rfl, rfl, rfl⟩
   refine go_nil ?_
   refine go_env [] trivial ?_
   refine go_ret ⟨rfl, rfl⟩ _ _ (res0 (by rfl)) ⟨rfl, rfl, by rw [hgo]⟩ (by repeat constructor) (by repeat constructor)
  ·intro g1
   (try simp only [decide_eq_true_eq, decide_eq_false_iff_not, Bool.not_eq_true', Bool.not_eq_false', Bool.not_eq_eq_eq_not, Bool.not_true, Bool.not_false, Int.not_lt, Int.not_le, beq_iff_eq, beq_eq_false_iff_ne, ne_eq] at g1)
   have hgo := goL_yes (F := F) (R := R) (N := N) (by omega) g1 few is new
   rw [hgo] at hlen
   iterate 3 first | refine go_skip ?_ | refine go_seq ?_
   refine go_draw ([cl bf 0 [.pointer pf], cl bL 0 [.bool c.b[i].no, .int .u32 c.b[i].a.p, .slice A0 c.b[i].a.a.length c0]]) ([]) [0, 2] (SL.pre [(1, 1), (1, 6), (2, 0), (2, 2), (0, 3), (0, 4), (1, 5)] .nil) mixed rfl (by kernel_rfl) ?_
   iterate 4 first | refine go_pure1 Tk rfl rfl rfl ?_ | refine go_val2a rfl (ldv Tk rfl rfl rfl) rfl ?_
   refine go_call (choicePut bH few is hf hi c.b[i].a A0 c0 (by omega) hvl) rfl rfl (by rfl) rfl (by repeat constructor) (by repeat constructor) (fun _ v Ps' Os' hq => by obtain ⟨A1, c1, rfl, rfl, rfl⟩ := hq; exact satS (by repeat constructor) (by repeat constructor)) ?_
   rintro _ _ _ ⟨A1, c1, rfl, rfl, rfl⟩
   refine go_call (relFindN pf F (putA few is c.b[i].a) A1 c1 hnl (by rw [putA_len]; omega) H.nF H.bF) rfl rfl (by rfl) rfl (by repeat constructor) (by repeat constructor) (fun h => nomatch h) ?_
   rintro _ _ _ ⟨A2, c2, rfl, rfl, rfl⟩
   refine go_freeze_dl (T := tFa) (A := A2) (by repeat constructor) ?_
   refine go_len (xs := F.filter (mtch (putA few is c.b[i].a))) (by repeat constructor) (fun l2 m2 => ?_)
   refine go_same (A := relO b out) (B := relO b (((F.filter (mtch (putA few is c.b[i].a))).take (0) |>.flatMap (goF c F R N i few is new)).foldl fput out)) (by repeat constructor) rfl ?_
   refine go_pure1 Tk rfl rfl rfl ?_
   refine go_nil ?_
   refine go_env [(0, _), (2, _), (4, _), (6, _), (10, _), (12, _), (39, _), (40, _), (41, _)] ⟨rfl, rfl, rfl, rfl, rfl, rfl, rfl, rfl, rfl, trivial⟩ ?_
   refine go_block ?_
   refine go_loop' (X := Nat) (fun k => [(41, .int .i64 (k : Int))]) [(0, _), (2, _), (4, _), (6, _), (10, _), (12, _), (39, _), (40, _)] (fun k => [relO b (((F.filter (mtch (putA few is c.b[i].a))).take (k) |>.flatMap (goF c F R N i few is new)).foldl fput out)]) (fun k => k ≤ (F.filter (mtch (putA few is c.b[i].a))).length) (fun k => (F.filter (mtch (putA few is c.b[i].a))).length - k) (0) ⟨rfl, rfl, rfl, rfl, rfl, rfl, rfl, rfl, rfl, trivial⟩ (by repeat constructor) (by omega) ?_
   intro k hk
   refine go_seq ?_
   refine go_region rfl ?_
   refine go_pure0 Tk rfl rfl rfl ?_
   refine go_nil ?_
   refine go_env [(0, _), (2, _), (4, _), (6, _), (10, _), (12, _), (39, _), (40, _), (41, _), (42, _)] ⟨rfl, rfl, rfl, rfl, rfl, rfl, rfl, rfl, rfl, rfl, trivial⟩ ?_
   refine go_seq ?_
   refine go_condD rfl ?_ ?_
   ·intro hk2
    iterate 4 first | refine go_skip ?_ | refine go_seq ?_ | refine go_block ?_
    have hkl : k < (F.filter (mtch (putA few is c.b[i].a))).length := by omega
    obtain ⟨f, hfe⟩ : ∃ f, f = (F.filter (mtch (putA few is c.b[i].a)))[k] := ⟨_, rfl⟩
    have hfm : f ∈ F.filter (mtch (putA few is c.b[i].a)) := by rw [hfe]; exact List.getElem_mem hkl
    rw [List.mem_filter] at hfm
    refine go_elem_fa (xs := F.filter (mtch (putA few is c.b[i].a))) (by repeat constructor) (k) (List.getElem?_eq_getElem (by omega)) (fun b3 o3 A3 c3 hA => ?_); cases hA
    rw [← hfe]
    refine go_region rfl ?_
    refine go_val0 rfl (idx_val Tk rfl rfl rfl rfl rfl (by omega)) rfl ?_
    refine go_val0 rfl (ldv Tk rfl rfl rfl) rfl ?_
    refine go_alloc Tk rfl rfl rfl (by rfl) rfl rfl (fun h => nomatch h) ?_
    intro bX
    refine go_store Tk rfl rfl rfl rfl rfl rfl (by repeat constructor) rfl rfl (by rfl) (fun h => nomatch h) ?_
    refine go_nil ?_
    refine go_freeze_pt (b := bX) (by repeat constructor) ?_
    refine go_env [(0, _), (2, _), (4, _), (6, _), (10, _), (12, _), (14, _), (39, _), (40, _), (41, _)] ⟨rfl, rfl, rfl, rfl, rfl, rfl, rfl, rfl, rfl, rfl, trivial⟩ ?_
    refine go_draw ([cl bF 0 [.func (.func 48) #[] #[.pointer (some ⟨bC, 0, none⟩), .pointer (some ⟨bF, 0, none⟩), .pointer (some ⟨bf, 0, none⟩), .pointer (some ⟨bg, 0, none⟩), .pointer (some ⟨bn, 0, none⟩), .pointer (some ⟨bo, 0, none⟩)]], cl bH 0 (hc few is []), cl bL 0 [.bool c.b[i].no, .int .u32 c.b[i].a.p, .slice A0 c.b[i].a.a.length c0], cl bX 0 [.int .u32 f.p, .slice A3 f.a.length c3], cl bg 0 [.pointer pg]]) ([]) [0, 3, 5, 6, 10, 11] (SL.pre [(1, 1), (1, 2), (1, 4), (1, 8), (2, 0), (2, 3), (2, 5), (2, 6), (0, 7), (1, 9), (2, 10), (2, 11), (0, 12), (1, 13), (0, 14)] .nil) mixed rfl (by kernel_rfl) ?_
    iterate 2 refine go_pure1 Tk rfl rfl rfl ?_
    refine go_re 47 (.int .i64 ((i + 1 : Nat) : Int)) (by show some (Value.int _ _) = _; rw [wrap_i64 (by omega) (by omega)]; rfl) ?_
    iterate 3 first | refine go_pure1 Tk rfl rfl rfl ?_ | refine go_val2a rfl (ldv Tk rfl rfl rfl) rfl ?_
    refine go_val2a rfl (load_val (cs := hc few is []) Tk rfl rfl rfl (at_allcl (by repeat constructor) (hc_len hf hi)) rfl) rfl ?_
    iterate 2 refine go_val2a rfl (ldv Tk rfl rfl rfl) rfl ?_
    refine go_call (choiceMeets few is hf hi c.b[i].a A0 c0 f A3 c3 (by have := (show Mt _ f from of_decide_eq_true hfm.2).pred.2; rw [putA_len] at this; exact this) hvl) rfl rfl (by rfl) rfl (by repeat constructor) (by repeat constructor) (fun _ v Ps' Os' hq => by obtain ⟨rfl, rfl, rfl⟩ := hq; exact satS (by repeat constructor) (by repeat constructor)) ?_
    rintro _ _ _ ⟨rfl, rfl, rfl⟩
    refine go_pure1 Tk rfl rfl rfl ?_
    refine go_known 54 rfl ?_ ?_
    ·intro g2
     (try simp only [decide_eq_true_eq, decide_eq_false_iff_not, Bool.not_eq_true', Bool.not_eq_false', Bool.not_eq_eq_eq_not, Bool.not_true, Bool.not_false, Int.not_lt, Int.not_le, beq_iff_eq, beq_eq_false_iff_ne, ne_eq] at g2)
     refine go_skip2 rfl (by repeat constructor) (by repeat constructor) rfl ?_
     refine go_skip2 rfl (by repeat constructor) (by repeat constructor) rfl ?_
     refine go_skip0f rfl satA rfl ?_
     refine go_pure1 Tk rfl rfl rfl ?_
     refine go_re 58 (.bool (new || decide (f ∈ R))) (by show some (Value.bool _) = _; rw [g2]; simp) ?_
     have hfg : goF c F R N i few is new (F.filter (mtch (putA few is c.b[i].a)))[k] = goL c F R N (c.b.drop (i + 1)) (meetL f.a (few, is) c.b[i].a.a 0) (new || decide (f ∈ R)) := by
       unfold goF
       rw [← hfe, List.getElem?_eq_getElem (by omega)]; rfl
     have hfl := flat_len hkl (goF c F R N i few is new)
     rw [hfg] at hfl
     have hol := foldl_flen ((F.filter (mtch (putA few is c.b[i].a))).take k |>.flatMap (goF c F R N i few is new)) out
     refine go_call (ih (by omega) (meetL f.a (few, is) c.b[i].a.a 0).1 (meetL f.a (few, is) c.b[i].a.a 0).2 (new || decide (f ∈ R)) (((F.filter (mtch (putA few is c.b[i].a))).take (k) |>.flatMap (goF c F R N i few is new)).foldl fput out) (by omega) (meetL_ok f.a _ (few, is) 0 ⟨hf, hi⟩).f (meetL_ok f.a _ (few, is) 0 ⟨hf, hi⟩).i (meetL_nn f.a (H.oF f hfm.1) _ (few, is) 0 hv) (foldl_rises _ _ ho) (by show _ + (goL c F R N (c.b.drop (i + 1)) (meetL f.a (few, is) c.b[i].a.a 0) (new || decide (f ∈ R))).length ≤ _; omega)) rfl rfl (by rfl) rfl (by repeat constructor) (by repeat constructor) (fun h => nomatch h) ?_
     rintro _ _ _ ⟨rfl, rfl, rfl⟩
     refine go_nil ?_
     refine go_env [(0, _), (2, _), (4, _), (6, _), (10, _), (12, _), (39, _), (40, _), (41, _), (55, _), (56, _), (57, _)] ⟨rfl, rfl, rfl, rfl, rfl, rfl, rfl, rfl, rfl, rfl, rfl, rfl, trivial⟩ ?_
     refine go_blk ?_
     iterate 3 first | refine go_region rfl ?_ | refine go_pure0 Tk rfl rfl rfl ?_
     refine go_nil ?_
     refine go_i64 41 rfl (by omega) (by omega) ?_
     refine go_same (B := relO b (((F.filter (mtch (putA few is c.b[i].a))).take (k + 1) |>.flatMap (goF c F R N i few is new)).foldl fput out)) .here (by rw [flat_next hkl, List.foldl_append, hfg]) ?_
     refine go_back (k + 1) ⟨rfl, rfl, rfl, rfl, rfl, rfl, rfl, rfl, rfl, trivial⟩ (by repeat constructor) (by repeat constructor) (by omega) (by omega)
    ·intro g2
     (try simp only [decide_eq_true_eq, decide_eq_false_iff_not, Bool.not_eq_true', Bool.not_eq_false', Bool.not_eq_eq_eq_not, Bool.not_true, Bool.not_false, Int.not_lt, Int.not_le, beq_iff_eq, beq_eq_false_iff_ne, ne_eq] at g2)
     iterate 2 refine go_val2a rfl (ldv Tk rfl rfl rfl) rfl ?_
     refine go_call (relHasN pg R f A3 c3 H.rR H.nR) rfl rfl (by rfl) rfl (by repeat constructor) (by repeat constructor) (fun _ v Ps' Os' hq => by obtain ⟨rfl, rfl, rfl⟩ := hq; exact satS (by repeat constructor) (by repeat constructor)) ?_
     rintro _ _ _ ⟨rfl, rfl, rfl⟩
     refine go_pure1 Tk rfl rfl rfl ?_
     refine go_re 58 (.bool (new || decide (f ∈ R))) (by show some (Value.bool _) = _; rw [g2]; simp) ?_
     have hfg : goF c F R N i few is new (F.filter (mtch (putA few is c.b[i].a)))[k] = goL c F R N (c.b.drop (i + 1)) (meetL f.a (few, is) c.b[i].a.a 0) (new || decide (f ∈ R)) := by
       unfold goF
       rw [← hfe, List.getElem?_eq_getElem (by omega)]; rfl
     have hfl := flat_len hkl (goF c F R N i few is new)
     rw [hfg] at hfl
     have hol := foldl_flen ((F.filter (mtch (putA few is c.b[i].a))).take k |>.flatMap (goF c F R N i few is new)) out
     refine go_call (ih (by omega) (meetL f.a (few, is) c.b[i].a.a 0).1 (meetL f.a (few, is) c.b[i].a.a 0).2 (new || decide (f ∈ R)) (((F.filter (mtch (putA few is c.b[i].a))).take (k) |>.flatMap (goF c F R N i few is new)).foldl fput out) (by omega) (meetL_ok f.a _ (few, is) 0 ⟨hf, hi⟩).f (meetL_ok f.a _ (few, is) 0 ⟨hf, hi⟩).i (meetL_nn f.a (H.oF f hfm.1) _ (few, is) 0 hv) (foldl_rises _ _ ho) (by show _ + (goL c F R N (c.b.drop (i + 1)) (meetL f.a (few, is) c.b[i].a.a 0) (new || decide (f ∈ R))).length ≤ _; omega)) rfl rfl (by rfl) rfl (by repeat constructor) (by repeat constructor) (fun h => nomatch h) ?_
     rintro _ _ _ ⟨rfl, rfl, rfl⟩
     refine go_nil ?_
     refine go_env [(0, _), (2, _), (4, _), (6, _), (10, _), (12, _), (39, _), (40, _), (41, _), (55, _), (56, _), (57, _)] ⟨rfl, rfl, rfl, rfl, rfl, rfl, rfl, rfl, rfl, rfl, rfl, rfl, trivial⟩ ?_
     refine go_blk ?_
     iterate 3 first | refine go_region rfl ?_ | refine go_pure0 Tk rfl rfl rfl ?_
     refine go_nil ?_
     refine go_i64 41 rfl (by omega) (by omega) ?_
     refine go_same (B := relO b (((F.filter (mtch (putA few is c.b[i].a))).take (k + 1) |>.flatMap (goF c F R N i few is new)).foldl fput out)) .here (by rw [flat_next hkl, List.foldl_append, hfg]) ?_
     refine go_back (k + 1) ⟨rfl, rfl, rfl, rfl, rfl, rfl, rfl, rfl, rfl, trivial⟩ (by repeat constructor) (by repeat constructor) (by omega) (by omega)
   ·intro hk2
    refine go_same (B := relO b ((F.filter (mtch (putA few is c.b[i].a))).flatMap (goF c F R N i few is new) |>.foldl fput out)) .here (by rw [List.take_of_length_le (by omega)]) ?_
    refine go_exit rfl ?_
    refine go_ret ⟨rfl, rfl⟩ _ _ (res0 (by rfl)) ⟨rfl, rfl, by rw [hgo]⟩ (by repeat constructor) (by repeat constructor)
 ·intro g0
  iterate 3 first | refine go_skip ?_ | refine go_seq ?_
  have hgo := goL_end (F := F) (R := R) (N := N) (show c.b.length ≤ i by omega) (few, is) new
  rw [hgo] at hlen
  iterate 5 first | refine go_region rfl ?_ | refine go_pure0 Tk rfl rfl rfl ?_ | refine go_val0 rfl (ldv Tk rfl rfl rfl) rfl ?_
  refine go_nil ?_
  refine go_env [(2, _), (3, _), (7, _), (8, _), (10, _), (62, _), (63, _), (64, _)] ⟨rfl, rfl, rfl, rfl, rfl, rfl, rfl, rfl, trivial⟩ ?_
  refine go_block ?_
  refine go_loop' (X := Nat) (fun k => [(64, .int .i64 (k : Int))]) [(2, _), (3, _), (7, _), (8, _), (10, _), (62, _), (63, _)] (fun _ => []) (fun k => k ≤ c.b.length ∧ ∀ l ∈ c.b.take k, ¬ (l.no = true ∧ ofA (putA few is l.a) ∈ N)) (fun k => c.b.length - k) (0) ⟨rfl, rfl, rfl, rfl, rfl, rfl, rfl, rfl, trivial⟩ (by repeat constructor) ⟨by omega, by simp⟩ ?_
  intro k ⟨hk, hz⟩
  refine go_seq ?_
  refine go_region rfl ?_
  refine go_pure0 Tk rfl rfl rfl ?_
  refine go_nil ?_
  refine go_env [(2, _), (3, _), (7, _), (8, _), (10, _), (62, _), (63, _), (64, _), (65, _)] ⟨rfl, rfl, rfl, rfl, rfl, rfl, rfl, rfl, rfl, trivial⟩ ?_
  refine go_seq ?_
  refine go_condD rfl ?_ ?_
  ·intro hq1
   iterate 4 first | refine go_skip ?_ | refine go_seq ?_ | refine go_block ?_
   refine go_elem_li (xs := c.b) (by repeat constructor) (k) (List.getElem?_eq_getElem (by omega)) (fun b4 o4 A4 c4 hA => ?_); cases hA
   refine go_region rfl ?_
   refine go_val0 rfl (idx_val Tk rfl rfl rfl rfl rfl (by omega)) rfl ?_
   refine go_val0 rfl (ldv Tk rfl rfl rfl) rfl ?_
   refine go_alloc Tk rfl rfl rfl (by rfl) rfl rfl (fun h => nomatch h) ?_
   intro bM
   refine go_store Tk rfl rfl rfl rfl rfl rfl (by repeat constructor) rfl rfl (by rfl) (fun h => nomatch h) ?_
   refine go_nil ?_
   refine go_freeze_pt (b := bM) (by repeat constructor) ?_
   have hvk := H.vb c.b[k] (List.getElem_mem _)
   have hlk := H.lb c.b[k] (List.getElem_mem _)
   refine go_env [(2, _), (3, _), (7, _), (8, _), (10, _), (16, _), (62, _), (63, _), (64, _)] ⟨rfl, rfl, rfl, rfl, rfl, rfl, rfl, rfl, rfl, trivial⟩ ?_
   refine go_seq ?_
   refine go_draw ([cl bn 0 [.pointer pn], cl bM 0 [.bool c.b[k].no, .int .u32 c.b[k].a.p, .slice A4 c.b[k].a.a.length c4]]) ([]) [1, 3, 5] (SL.pre [(1, 0), (2, 1), (1, 2), (1, 4), (2, 3), (2, 5), (0, 6), (0, 7), (1, 8)] .nil) mixed rfl (by kernel_rfl) ?_
   iterate 3 first | refine go_pure1 Tk rfl rfl rfl ?_ | refine go_val2a rfl (ldv Tk rfl rfl rfl) rfl ?_
   refine go_known 70 rfl ?_ ?_
   ·intro g3
    (try simp only [decide_eq_true_eq, decide_eq_false_iff_not, Bool.not_eq_true', Bool.not_eq_false', Bool.not_eq_eq_eq_not, Bool.not_true, Bool.not_false, Int.not_lt, Int.not_le, beq_iff_eq, beq_eq_false_iff_ne, ne_eq] at g3)
    iterate 3 first | refine go_pure1 Tk rfl rfl rfl ?_ | refine go_val2a rfl (ldv Tk rfl rfl rfl) rfl ?_
    refine go_call (choiceBecomes bH few is hf hi c.b[k].a A4 c4 (by omega) hvk) rfl rfl (by rfl) rfl (by repeat constructor) (by repeat constructor) (fun _ v Ps' Os' hq => by obtain ⟨A5, c5, rfl, rfl, rfl⟩ := hq; exact satS (by repeat constructor) (by repeat constructor)) ?_
    rintro _ _ _ ⟨A5, c5, rfl, rfl, rfl⟩
    refine go_call (relHasN pn N (ofA (putA few is c.b[k].a)) A5 c5 H.rN H.nN) rfl rfl (by rfl) rfl (by repeat constructor) (by repeat constructor) (fun h => nomatch h) ?_
    rintro _ _ _ ⟨rfl, rfl, rfl⟩
    refine go_pure1 Tk rfl rfl rfl ?_
    refine go_nil ?_
    refine go_env [(2, _), (3, _), (7, _), (8, _), (10, _), (62, _), (63, _), (64, _), (71, _), (72, _), (73, _), (74, _), (75, _), (76, _)] ⟨rfl, rfl, rfl, rfl, rfl, rfl, rfl, rfl, rfl, rfl, rfl, rfl, rfl, rfl, trivial⟩ ?_
    refine go_cond rfl ?_ ?_
    ·intro g4
     (try simp only [decide_eq_true_eq, decide_eq_false_iff_not, Bool.not_eq_true', Bool.not_eq_false', Bool.not_eq_eq_eq_not, Bool.not_true, Bool.not_false, Int.not_lt, Int.not_le, beq_iff_eq, beq_eq_false_iff_ne, ne_eq] at g4)
     refine go_ret ⟨rfl, rfl⟩ _ _ (res0 (by rfl)) ⟨rfl, rfl, by rw [hgo, if_neg (fun q => by rw [okN_no (c := (few, is)) (by omega) g3 g4] at q; cases q.1)]⟩ (by repeat constructor) (by repeat constructor)
    ·intro g4
     (try simp only [decide_eq_true_eq, decide_eq_false_iff_not, Bool.not_eq_true', Bool.not_eq_false', Bool.not_eq_eq_eq_not, Bool.not_true, Bool.not_false, Int.not_lt, Int.not_le, beq_iff_eq, beq_eq_false_iff_ne, ne_eq] at g4)
     have hkz : ¬ (c.b[k].no = true ∧ ofA (putA few is c.b[k].a) ∈ N) := fun q => g4 q.2
     refine go_skip ?_
     refine go_blk ?_
     iterate 3 first | refine go_region rfl ?_ | refine go_pure0 Tk rfl rfl rfl ?_
     refine go_nil ?_
     refine go_i64 64 rfl (by omega) (by omega) ?_
     refine go_back (k + 1) ⟨rfl, rfl, rfl, rfl, rfl, rfl, rfl, rfl, trivial⟩ (by repeat constructor) (by repeat constructor) (⟨by omega, mem_take_next (by omega) hz hkz⟩) (by omega)
   ·intro g3
    (try simp only [decide_eq_true_eq, decide_eq_false_iff_not, Bool.not_eq_true', Bool.not_eq_false', Bool.not_eq_eq_eq_not, Bool.not_true, Bool.not_false, Int.not_lt, Int.not_le, beq_iff_eq, beq_eq_false_iff_ne, ne_eq] at g3)
    have hkz : ¬ (c.b[k].no = true ∧ ofA (putA few is c.b[k].a) ∈ N) := fun q => by rw [g3] at q; cases q.1
    refine go_skip1 rfl rfl ?_
    refine go_skip2 rfl (by repeat constructor) (by repeat constructor) rfl ?_
    refine go_skip2 rfl (by repeat constructor) (by repeat constructor) rfl ?_
    refine go_skip0f rfl satA rfl ?_
    refine go_skip0 rfl rfl ?_
    refine go_pure1 Tk rfl rfl rfl ?_
    refine go_nil ?_
    refine go_env [(2, _), (3, _), (7, _), (8, _), (10, _), (62, _), (63, _), (64, _), (71, _), (72, _), (73, _), (74, _), (75, _), (76, _)] ⟨rfl, rfl, rfl, rfl, rfl, rfl, rfl, rfl, rfl, rfl, rfl, rfl, rfl, rfl, trivial⟩ ?_
    refine go_cond_f rfl ?_
    refine go_skip ?_
    refine go_blk ?_
    iterate 3 first | refine go_region rfl ?_ | refine go_pure0 Tk rfl rfl rfl ?_
    refine go_nil ?_
    refine go_i64 64 rfl (by omega) (by omega) ?_
    refine go_back (k + 1) ⟨rfl, rfl, rfl, rfl, rfl, rfl, rfl, rfl, trivial⟩ (by repeat constructor) (by repeat constructor) (⟨by omega, mem_take_next (by omega) hz hkz⟩) (by omega)
  ·intro hq1
   refine go_exit rfl ?_
   refine go_seq ?_
   refine go_region rfl ?_
   refine go_pure0 Tk rfl rfl rfl ?_
   refine go_nil ?_
   refine go_env [(3, _), (8, _), (10, _), (78, _)] ⟨rfl, rfl, rfl, rfl, trivial⟩ ?_
   refine go_cond rfl ?_ ?_
   ·intro g5
    (try simp only [decide_eq_true_eq, decide_eq_false_iff_not, Bool.not_eq_true', Bool.not_eq_false', Bool.not_eq_eq_eq_not, Bool.not_true, Bool.not_false, Int.not_lt, Int.not_le, beq_iff_eq, beq_eq_false_iff_ne, ne_eq] at g5)
    have hok : okN N c.b (few, is) = true := okN_yes (by omega) hz
    rw [if_pos ⟨hok, g5⟩, List.length_singleton] at hlen
    refine go_draw ([cl bo 0 [.pointer (some ⟨b, 0, none⟩)], cl bC 0 [.int .u32 c.h.p, .slice CA c.h.a.length cc, .slice CB c.b.length cd]]) ([]) [0, 2] (SL.pre [(1, 1), (2, 0), (2, 2), (0, 3), (0, 4)] .nil) mixed rfl (by kernel_rfl) ?_
    iterate 3 first | refine go_pure1 Tk rfl rfl rfl ?_ | refine go_val2a rfl (ldv Tk rfl rfl rfl) rfl ?_
    refine go_call (choiceBecomes bH few is hf hi c.h CA cc (by have := H.lh; omega) H.vh) rfl rfl (by rfl) rfl (by repeat constructor) (by repeat constructor) (fun _ v Ps' Os' hq => by obtain ⟨A6, c6, rfl, rfl, rfl⟩ := hq; exact satS (by repeat constructor) (by repeat constructor)) ?_
    rintro _ _ _ ⟨A6, c6, rfl, rfl, rfl⟩
    refine go_call (relPut b out (ofA (putA few is c.h)) A6 c6 ho (by omega) (by have h1 := ofA_len (putA few is c.h); have h2 := H.lh; rw [putA_len] at h1; omega)) rfl rfl (by rfl) rfl (by repeat constructor) (by repeat constructor) (fun h => nomatch h) ?_
    rintro _ _ _ ⟨rfl, rfl, rfl⟩
    refine go_nil ?_
    refine go_end ⟨rfl, rfl⟩ _ _ (res0 (by rfl)) ⟨rfl, rfl, by rw [hgo, if_pos ⟨hok, g5⟩]⟩ (by repeat constructor) (by repeat constructor)
   ·intro g5
    (try simp only [decide_eq_true_eq, decide_eq_false_iff_not, Bool.not_eq_true', Bool.not_eq_false', Bool.not_eq_eq_eq_not, Bool.not_true, Bool.not_false, Int.not_lt, Int.not_le, beq_iff_eq, beq_eq_false_iff_ne, ne_eq] at g5)
    rw [if_neg (fun q => by rw [g5] at q; cases q.2)] at hgo
    refine go_skip ?_
    refine go_end ⟨rfl, rfl⟩ _ _ (res0 (by rfl)) ⟨rfl, rfl, by rw [hgo]⟩ (by repeat constructor) (by repeat constructor)

end Go.Proofs.Ytkhddfknpegpmaa.SL

/- Laws of heads: what they are of more facts, of other orders, of other names. -/
set_option linter.unusedVariables false
set_option linter.unusedSimpArgs false
namespace Go.Proofs.Ytkhddfknpegpmaa.SL
/-- A clause as it comes: its numbers are ones of 32 bits. -/
def Cl.ok (c : Cl) : Prop := c.h.ok ∧ ∀ l ∈ c.b, l.a.ok
theorem may_vok {a : Am} (h : mayA a = true) (g : a.ok) : vok a := fun t ht e => by
  unfold mayA at h
  simp only [Bool.and_eq_true, Bool.not_eq_true', List.any_eq_false, decide_eq_true_eq, not_and] at h
  have := h.2 t ht e
  exact ⟨(g.2 t ht).1, by omega⟩
theorem may_len6 {a : Am} (h : mayA a = true) : a.a.length ≤ 6 := by
  unfold mayA at h
  simp only [Bool.and_eq_true, decide_eq_true_eq] at h
  exact h.1
theorem mayC_iff {c : Cl} : mayC c = true ↔ c.b.length ≤ 8 ∧ mayA c.h = true ∧ ∀ l ∈ c.b, mayA l.a = true := by
  unfold mayC
  simp only [Bool.and_eq_true, decide_eq_true_eq, Bool.not_eq_true', List.any_eq_false, Bool.not_eq_true, Bool.not_eq_false', Bool.not_eq_false]
theorem mayC_of {c : Cl} (h : mayC c = true) : c.b.length ≤ 8 ∧ mayA c.h = true ∧ ∀ l ∈ c.b, mayA l.a = true := mayC_iff.1 h
def heldP (c : Cl) : Prop := (∀ t ∈ c.h.a, t.v = true → t.n ∈ heldBy c) ∧ ∀ l ∈ c.b, l.no = true → ∀ t ∈ l.a.a, t.v = true → t.n ∈ heldBy c
theorem heldC_iff {c : Cl} : heldC c = true ↔ heldP c := by
  unfold heldC heldP
  simp only [Bool.and_eq_true, List.all_eq_true, decide_eq_true_eq, List.mem_filter]
  constructor
  · intro h
    exact ⟨fun t ht e => h.2 _ (mem_vars.2 ⟨t, ht, e, rfl⟩), fun l hl e t ht et => h.1 l ⟨hl, e⟩ _ (mem_vars.2 ⟨t, ht, et, rfl⟩)⟩
  · intro h
    refine ⟨fun l hl v hv => ?_, fun v hv => ?_⟩
    · obtain ⟨t, ht, e, rfl⟩ := mem_vars.1 hv
      exact h.2 l hl.1 hl.2 t ht e
    · obtain ⟨t, ht, e, rfl⟩ := mem_vars.1 hv
      exact h.1 t ht e
theorem right_of {c : Cl} (hm : mayC c = true) (hh : heldC c = true) (ho : c.ok) : RightC c := by
  obtain ⟨_, h1, h2⟩ := mayC_of hm
  obtain ⟨h3, h4⟩ := heldC_iff.1 hh
  exact ⟨may_vok h1 ho.1, fun l hl => may_vok (h2 l hl) (ho.2 l hl), h3, h4⟩
/-! ### lengths -/
def atomsC (c : Cl) : List Am := c.h :: c.b.map (·.a)
def sameLen (ats : List Am) : Prop := ∀ a ∈ ats, ∀ b ∈ ats, a.p = b.p → a.a.length = b.a.length
theorem fitB_iff {L : Lens} {p n : Int} : fitB L p n = true ↔ ∀ k, L p = some k → k = n := by
  unfold fitB
  cases e : L p with
  | none => simp
  | some k => simp
theorem lens_fold : ∀ (ats : List Am) (x : Bool × Lens), (ats.foldl stepL x).1 = true ↔ x.1 = true ∧ (∀ a ∈ ats, ∀ k, x.2 a.p = some k → k = (a.a.length : Int)) ∧ sameLen ats
  | [], x => by simp [sameLen]
  | a :: r, x => by
    rw [List.foldl_cons, lens_fold r (stepL x a)]
    unfold stepL
    simp only [Bool.and_eq_true, fitB_iff]
    constructor
    · rintro ⟨⟨h1, h2⟩, h3, h4⟩
      have key : ∀ b ∈ r, a.p = b.p → a.a.length = b.a.length := fun b hb e => by
        cases q : x.2 a.p with
        | none =>
          have := h3 b hb a.a.length (by unfold learn; rw [if_pos ⟨e.symm, q⟩])
          omega
        | some k =>
          have g1 := h1 k q
          have := h3 b hb k (by rw [learn_old q, ← e]; exact q)
          omega
      refine ⟨h2, ?_, ?_⟩
      · intro b hb k q
        rcases List.mem_cons.1 hb with rfl | hb
        · exact h1 k q
        · by_cases e : b.p = a.p
          · have g1 := h1 k (by rw [← e]; exact q)
            have g2 := key b hb e.symm
            omega
          · exact h3 b hb k (by unfold learn; rw [if_neg (fun z => e z.1)]; exact q)
      · intro b hb d hd e
        rcases List.mem_cons.1 hb with rfl | hb <;> rcases List.mem_cons.1 hd with rfl | hd
        · rfl
        · exact key d (by assumption) e
        · exact (key b (by assumption) e.symm).symm
        · exact h4 b (by assumption) d (by assumption) e
    · rintro ⟨h1, h2, h3⟩
      refine ⟨⟨h2 a (.head _), h1⟩, fun b hb k q => ?_, fun b hb d hd => h3 b (.tail _ hb) d (.tail _ hd)⟩
      unfold learn at q
      split at q
      · rename_i e
        cases q
        have := h3 b (.tail _ hb) a (.head _) e.1
        omega
      · exact h2 b (.tail _ hb) k q
theorem clause_lens {L : Lens} {c : Cl} : (clauseL L c).1 = true ↔ (∀ a ∈ atomsC c, ∀ k, L a.p = some k → k = (a.a.length : Int)) ∧ sameLen (atomsC c) := by
  have : clauseL L c = (atomsC c).foldl stepL (true, L) := by
    unfold clauseL atomsC
    rw [List.foldl_cons, List.foldl_map]
  rw [this, lens_fold]; simp
theorem right_iff {c : Cl} : (rightC [c]).2 = 0 ↔ mayC c = true ∧ heldP c ∧ sameLen (atomsC c) := by
  have h0 : (clauseL (fun _ => none) c).1 = true ↔ sameLen (atomsC c) := by rw [clause_lens]; simp
  rw [← h0, ← heldC_iff]
  unfold rightC
  rw [if_neg (by simp)]
  unfold rightF
  by_cases e : badC (fun _ => none) c = 0
  · rw [if_pos e]
    unfold badC at e
    constructor
    · intro _
      split at e
      · cases e
      · split at e
        · cases e
        · split at e
          · cases e
          · rename_i h1 h2 h3
            exact ⟨by simpa using h1, by simpa using h2, by simpa using h3⟩
    · intro _; rfl
  · rw [if_neg e]
    constructor
    · intro h; exact absurd h e
    · rintro ⟨h1, h2, h3⟩
      exact absurd (by unfold badC; rw [h1, h2, h3]; rfl) e
theorem right_one {c : Cl} (h : (rightC [c]).2 = 0) : mayC c = true ∧ heldC c = true ∧ (clauseL (fun _ => none) c).1 = true := by
  obtain ⟨h1, h2, h3⟩ := right_iff.1 h
  exact ⟨h1, heldC_iff.2 h2, by rw [clause_lens]; exact ⟨(fun a _ k q => nomatch q), h3⟩⟩
/-- What join.heads answers. -/
noncomputable def headsC (c : Cl) (F R N : List Fa) (some : Bool) : List Fa := if (rightC [c]).2 = 0 then headsL c F R N some else []
theorem mem_headsC {c : Cl} (ho : c.ok) (hr : (rightC [c]).2 = 0) {F R N : List Fa} {some : Bool} {x : Fa} : x ∈ headsC c F R N some ↔ Hd c (· ∈ F) (· ∈ R) (· ∈ N) some x := by
  unfold headsC
  rw [if_pos hr, mem_headsL (right_of (right_one hr).1 (right_one hr).2.1 ho)]
theorem headsC_not {c : Cl} (hr : ¬ (rightC [c]).2 = 0) (F R N : List Fa) (some : Bool) : headsC c F R N some = [] := by unfold headsC; rw [if_neg hr]
theorem mem_headsC' {c : Cl} (ho : c.ok) {F R N : List Fa} {some : Bool} {x : Fa} : x ∈ headsC c F R N some ↔ (rightC [c]).2 = 0 ∧ Hd c (· ∈ F) (· ∈ R) (· ∈ N) some x := by
  by_cases hr : (rightC [c]).2 = 0
  · rw [mem_headsC ho hr]; simp [hr]
  · rw [headsC_not hr]; simp [hr]
theorem Hd.mono {c : Cl} {F F' R R' N N' : Fa → Prop} {some : Bool} {x : Fa} (h : Hd c F R N some x) (hF : ∀ y, F y → F' y) (hR : ∀ y, R y → R' y) (hN : ∀ y, N' y → N y) : Hd c F' R' N' some x := by
  obtain ⟨s, h1, h2, h3, h4⟩ := h
  exact ⟨s, fun l hl e => hF _ (h1 l hl e), fun l hl e q => h2 l hl e (hN _ q), fun e => by obtain ⟨l, hl, e1, e2⟩ := h3 e; exact ⟨l, hl, e1, hR _ e2⟩, h4⟩
theorem Hd.any {c : Cl} {F R N : Fa → Prop} {x : Fa} (h : Hd c F R N true x) (R' : Fa → Prop) : Hd c F R' N false x := by
  obtain ⟨s, h1, h2, h3, h4⟩ := h
  exact ⟨s, h1, h2, (fun e => nomatch e), h4⟩
end Go.Proofs.Ytkhddfknpegpmaa.SL

/- Contracts of functions of the program (Joinf): what each call comes to, for the laws' proofs. -/
set_option linter.unusedVariables false
set_option linter.unusedSimpArgs false
namespace Go.Proofs.Ytkhddfknpegpmaa.SL
open Go 

theorem headsFrom (c : Cl) (CA : Option Addr) (cc : Nat) (CB : Option Addr) (cd : Nat) (bC bF bf bg bn bo b : Nat) (pf pg pn : Option Addr) (F R N : List Fa) (H : JoinH c F R N) : ∀ (n i : Nat) (few : List Int) (is : List Bool) (new : Bool) (out : List Fa) (hn : c.b.length - i = n) (hil : i ≤ c.b.length) (hf : few.length = 16) (hi : is.length = 16) (hv : ∀ v ∈ few, 0 ≤ v) (ho : rises out) (hlen : out.length + (goL c F R N (c.b.drop i) (few, is) new).length ≤ 50000000),
    Spec Try.prog 48 #[.int .i64 (i : Int), .agg (hc (few) (is) []).toArray, .bool (new), .pointer (some ⟨bC, 0, none⟩), .pointer (some ⟨bF, 0, none⟩), .pointer (some ⟨bf, 0, none⟩), .pointer (some ⟨bg, 0, none⟩), .pointer (some ⟨bn, 0, none⟩), .pointer (some ⟨bo, 0, none⟩)] [cl bC 0 [.int .u32 c.h.p, .slice CA c.h.a.length cc, .slice CB c.b.length cd], sl tTm CA cc c.h.a, sl tLi CB cd c.b, cl bF 0 [.func (.func 48) #[] #[.pointer (some ⟨bC, 0, none⟩), .pointer (some ⟨bF, 0, none⟩), .pointer (some ⟨bf, 0, none⟩), .pointer (some ⟨bg, 0, none⟩), .pointer (some ⟨bn, 0, none⟩), .pointer (some ⟨bo, 0, none⟩)]], cl bf 0 [.pointer pf], cl bg 0 [.pointer pg], cl bn 0 [.pointer pn], cl bo 0 [.pointer (some ⟨b, 0, none⟩)], relN pf F, relN pg R, relN pn N] [relO b out] (fun v Ps' Os' => v = .tuple #[] ∧ Ps' = [] ∧ Os' = [relO b ((goL c F R N (c.b.drop (i)) (few, is) (new)).foldl fput (out))])
  | 0, i, few, is, new, out, hn, hil, hf, hi, hv, ho, hlen => heads1 c CA cc CB cd bC bF bf bg bn bo b pf pg pn F R N H i few is new out hil hf hi hv ho hlen (fun h => absurd h (by omega))
  | n + 1, i, few, is, new, out, hn, hil, hf, hi, hv, ho, hlen => heads1 c CA cc CB cd bC bF bf bg bn bo b pf pg pn F R N H i few is new out hil hf hi hv ho hlen (fun h few' is' new' out' h1 h2 h3 h4 h5 h6 =>
      headsFrom c CA cc CB cd bC bF bf bg bn bo b pf pg pn F R N H n (i + 1) few' is' new' out' (by omega) h1 h2 h3 h4 h5 h6)
theorem goL_args (c : Cl) (F R N : List Fa) : ∀ (r : List Li) (ch : Ch) (new : Bool), ∀ x ∈ goL c F R N r ch new, x.a.length ≤ c.h.a.length
  | [], ch, new => by
    unfold goL
    split
    · intro x hx
      rw [List.mem_singleton] at hx
      subst hx
      exact Nat.le_trans (ofA_len _) (by rw [putA_len]; exact Nat.le_refl _)
    · intro x hx; cases hx
  | l :: r, ch, new => by
    unfold goL
    split
    · exact goL_args c F R N r ch new
    · intro x hx
      rw [List.mem_flatMap] at hx
      obtain ⟨f, _, hx⟩ := hx
      exact goL_args c F R N r _ _ x hx
structure JoinS (F R N : List Fa) : Prop where
  nF : F.length ≤ 50000000
  bF : ∀ x ∈ F, x.a.length ≤ 100000
  oF : ∀ x ∈ F, x.ok
  rR : rises R
  nR : R.length ≤ 50000000
  rN : rises N
  nN : N.length ≤ 50000000
theorem JoinS.h {c : Cl} {F R N : List Fa} (h : JoinS F R N) (ho : c.ok) (hr : (rightC [c]).2 = 0) : JoinH c F R N := by
  obtain ⟨h1, h2, _⟩ := right_one hr
  obtain ⟨g1, g2, g3⟩ := mayC_of h1
  exact ⟨may_vok g2 ho.1, fun l hl => may_vok (g3 l hl) (ho.2 l hl), Nat.le_trans (may_len6 g2) (by omega), fun l hl => Nat.le_trans (may_len6 (g3 l hl)) (by omega), fun l hl t ht => ((ho.2 l hl).2 t ht).1,
    h.nF, h.bF, fun x hx n hn => ((h.oF x hx).2 n hn).1, h.rR, h.nR, h.rN, h.nN⟩
theorem headsC_args {c : Cl} {F R N : List Fa} {some : Bool} (x : Fa) (hx : x ∈ headsC c F R N some) : x.a.length ≤ 6 := by
  unfold headsC at hx
  split at hx
  · rename_i h
    exact Nat.le_trans (goL_args c F R N _ _ _ x (mem_fof.1 hx)) (may_len6 (mayC_of (right_one h).1).2.1)
  · cases hx

set_option maxHeartbeats 2000000 in
set_option maxRecDepth 20000 in
theorem joinHeads (c : Cl) (CA : Option Addr) (cc : Nat) (CB : Option Addr) (cd : Nat) (pf pg pn : Option Addr) (F R N : List Fa) (hs : JoinS F R N) (hok : c.ok) (some : Bool) (hb : (goL c F R N c.b ch0 (!some)).length ≤ 50000000) :
    Spec Try.prog 32 #[.agg #[.int .u32 c.h.p, .slice CA c.h.a.length cc, .slice CB c.b.length cd], .pointer pf, .pointer pg, .pointer pn, .bool some] [sl tTm CA cc c.h.a, sl tLi CB cd c.b, relN pf F, relN pg R, relN pn N] [] (fun v Ps' Os' => ∃ A k, v = .slice A (headsC c F R N some).length k ∧ Ps' = [] ∧ Os' = [dl tFa 41 A k (headsC c F R N some)]) := by
 refine spec_of (fn := Try.f32) (args := [.agg #[.int .u32 c.h.p, .slice CA c.h.a.length cc, .slice CB c.b.length cd], .pointer pf, .pointer pg, .pointer pn, .bool some]) 32 Try.func32 rfl (by kernel_rfl) Try.ntmps32 (Nat.le_of_ble_eq_true rfl) (fun w0 hp0 hf0 => ?_)
 refine go_seq ?_
 refine go_region rfl ?_
 refine go_box Tk rfl rfl rfl rfl (by rfl) rfl rfl (fun h => nomatch h) ?_
 intro bC
 refine go_box Tk rfl rfl rfl rfl (by rfl) rfl rfl (fun h => nomatch h) ?_
 intro bf
 refine go_box Tk rfl rfl rfl rfl (by rfl) rfl rfl (fun h => nomatch h) ?_
 intro bg
 refine go_box Tk rfl rfl rfl rfl (by rfl) rfl rfl (fun h => nomatch h) ?_
 intro bn
 refine go_pure0 Tk rfl rfl rfl ?_
 refine go_nil ?_
 refine go_freeze_pt (b := bC) (by repeat constructor) ?_
 refine go_freeze_pt (b := bf) (by repeat constructor) ?_
 refine go_freeze_pt (b := bg) (by repeat constructor) ?_
 refine go_freeze_pt (b := bn) (by repeat constructor) ?_
 refine go_env [(4, _), (5, _), (6, _), (7, _), (8, _)] ⟨rfl, rfl, rfl, rfl, rfl, trivial⟩ ?_
 refine go_seq ?_
 refine go_seq ?_
 refine go_region rfl ?_
 refine go_val0 rfl (ldv Tk rfl rfl rfl) rfl ?_
 refine go_bslice Tk rfl rfl rfl rfl rfl rfl rfl rfl (fun h => nomatch h) ?_
 intro bs
 refine go_lit tCl (b := bs) [c] (by repeat constructor) (fun hp a => ⟨[.int .u32 c.h.p, .slice CA c.h.a.length cc, .slice CB c.b.length cd], [], rfl, tCl_mk (a (sl tTm CA cc c.h.a) (by repeat constructor)) (a (sl tLi CB cd c.b) (by repeat constructor)), rfl⟩) (by simp) ?_
 refine go_call (safeRight (Option.some ⟨bs, 0, none⟩) 1 [c]) rfl rfl (by rfl) rfl (by repeat constructor) (by repeat constructor) (fun h => nomatch h) ?_
 rintro _ _ _ ⟨rfl, rfl, rfl⟩
 iterate 5 refine go_pure0 Tk rfl rfl rfl ?_
 refine go_nil ?_
 refine go_env [(4, _), (5, _), (6, _), (7, _), (8, _), (12, _)] ⟨rfl, rfl, rfl, rfl, rfl, rfl, trivial⟩ ?_
 iterate 4 first | refine go_seq ?_ | refine go_region rfl ?_ | refine go_pure0 Tk rfl rfl rfl ?_
 refine go_nil ?_
 refine go_env [(4, _), (5, _), (6, _), (7, _), (8, _), (22, _)] ⟨rfl, rfl, rfl, rfl, rfl, rfl, trivial⟩ ?_
 refine go_condN rfl ?_ ?_
 ·intro g1
  have hc0 : headsC c F R N some = [] := by unfold headsC; rw [if_neg (by simpa using g1)]
  refine go_down_nil tFa 41 none ?_
  refine go_seq ?_
  refine go_region rfl ?_
  refine go_pure0 Tk rfl rfl rfl ?_
  refine go_nil ?_
  refine go_env [(10, _)] ⟨rfl, trivial⟩ ?_
  refine go_ret ⟨rfl, rfl⟩ _ _ (res1 (by rfl) (.tmp rfl)) ⟨none, 0, by rw [hc0]; rfl, rfl, by rw [hc0]⟩ (by repeat constructor) (by repeat constructor)
 ·intro g1
  have g1' : (rightC [c]).2 = 0 := by simpa using g1
  have hc1 : headsC c F R N some = headsL c F R N some := by unfold headsC; rw [if_pos g1']
  have H := hs.h hok g1'
  refine go_skip ?_
  refine go_seq ?_
  refine go_region rfl ?_
  refine go_call (relNew) rfl rfl (by rfl) rfl (by repeat constructor) (by repeat constructor) (fun h => nomatch h) ?_
  rintro _ _ _ ⟨b, rfl, rfl, rfl⟩
  refine go_alloc Tk rfl rfl rfl (by rfl) rfl rfl (fun h => nomatch h) ?_
  intro bo
  refine go_store Tk rfl rfl rfl rfl rfl rfl (by repeat constructor) rfl rfl (by rfl) (fun h => nomatch h) ?_
  refine go_nil ?_
  refine go_env [(4, _), (5, _), (6, _), (7, _), (8, _), (13, _)] ⟨rfl, rfl, rfl, rfl, rfl, rfl, trivial⟩ ?_
  refine go_seq ?_
  refine go_region rfl ?_
  refine go_alloc Tk rfl rfl rfl (by rfl) rfl rfl (fun h => nomatch h) ?_
  intro bF
  refine go_nil ?_
  refine go_env [(4, _), (5, _), (6, _), (7, _), (8, _), (13, _), (14, _)] ⟨rfl, rfl, rfl, rfl, rfl, rfl, rfl, trivial⟩ ?_
  refine go_seq ?_
  refine go_region rfl ?_
  refine go_pure0 Tk rfl rfl rfl ?_
  refine go_store Tk rfl rfl rfl rfl rfl rfl (by repeat constructor) rfl rfl (by rfl) (fun h => nomatch h) ?_
  refine go_nil ?_
  refine go_freeze_pt (b := bo) (by repeat constructor) ?_
  refine go_freeze_pt (b := bF) (by repeat constructor) ?_
  refine go_env [(4, _), (13, _), (14, _)] ⟨rfl, rfl, rfl, trivial⟩ ?_
  refine go_seq ?_
  refine go_region rfl ?_
  refine go_val0 rfl (ldv Tk rfl rfl rfl) rfl ?_
  refine go_val0 rfl (fun a w hp ho hf hs => build_val Tk rfl rfl rfl (by rfl) a w hf) rfl ?_
  refine go_re 26 (.agg (hc (List.replicate 16 0) (List.replicate 16 false) []).toArray) (by rfl) ?_
  iterate 2 refine go_pure0 Tk rfl rfl rfl ?_
  refine go_call (headsFrom c CA cc CB cd bC bF bf bg bn bo b pf pg pn F R N H (c.b.length - 0) 0 (List.replicate 16 0) (List.replicate 16 false) (!some) [] rfl (by omega) (by simp) (by simp) (by intro v hv; rw [List.mem_replicate] at hv; omega) rises_nil (by show 0 + _ ≤ _; rw [Nat.zero_add]; exact hb)) rfl rfl (by rfl) rfl (by repeat constructor) (by repeat constructor) (fun h => nomatch h) ?_
  rintro _ _ _ ⟨rfl, rfl, rfl⟩
  refine go_same (A := relO b _) (B := relO b (headsL c F R N some)) (by repeat constructor) rfl ?_
  refine go_freeze_rel (b := b) (by repeat constructor) ?_
  refine go_ent (relN (Option.some ⟨b, 0, none⟩) (headsL c F R N some)) (fun hh hps => relN_some (hps (relP b (headsL c F R N some)) (by repeat constructor))) ?_
  refine go_nil ?_
  refine go_env [(13, _)] ⟨rfl, trivial⟩ ?_
  refine go_seq ?_
  refine go_region rfl ?_
  refine go_val0 rfl (ldv Tk rfl rfl rfl) rfl ?_
  refine go_call (relListN (Option.some ⟨b, 0, none⟩) (headsL c F R N some) (Nat.le_trans (fof_len _) hb) (fun x hx => by have := headsC_args (c := c) (F := F) (R := R) (N := N) (some := some) x (by rw [hc1]; exact hx); omega)) rfl rfl (by rfl) rfl (by repeat constructor) (by repeat constructor) (fun h => nomatch h) ?_
  rintro _ _ _ ⟨A9, c9, rfl, rfl, rfl⟩
  refine go_pure0 Tk rfl rfl rfl ?_
  refine go_nil ?_
  refine go_env [(10, _)] ⟨rfl, trivial⟩ ?_
  refine go_ret ⟨rfl, rfl⟩ _ _ (res1 (by rfl) (.tmp rfl)) ⟨A9, c9, by rw [hc1], rfl, by rw [hc1]⟩ (by repeat constructor) (by repeat constructor)

set_option maxHeartbeats 2000000 in
set_option maxRecDepth 20000 in
theorem joinHeadsAll (c : Cl) (CA : Option Addr) (cc : Nat) (CB : Option Addr) (cd : Nat) (pf pn : Option Addr) (F N : List Fa) (hs : JoinS F [] N) (hok : c.ok) (hb : (goL c F [] N c.b ch0 true).length ≤ 50000000) :
    Spec Try.prog 10 #[.agg #[.int .u32 c.h.p, .slice CA c.h.a.length cc, .slice CB c.b.length cd], .pointer pf, .pointer pn] [sl tTm CA cc c.h.a, sl tLi CB cd c.b, relN pf F, relN pn N] [] (fun v Ps' Os' => ∃ A k, v = .slice A (headsC c F [] N false).length k ∧ Ps' = [] ∧ Os' = [dl tFa 41 A k (headsC c F [] N false)]) := by
 refine spec_of (fn := Try.f10) (args := [.agg #[.int .u32 c.h.p, .slice CA c.h.a.length cc, .slice CB c.b.length cd], .pointer pf, .pointer pn]) 11 Try.func10 rfl (by kernel_rfl) Try.ntmps10 (Nat.le_of_ble_eq_true rfl) (fun w0 hp0 hf0 => ?_)
 refine go_seq ?_
 refine go_region rfl ?_
 refine go_box Tk rfl rfl rfl rfl (by rfl) rfl rfl (fun h => nomatch h) ?_
 intro bC
 refine go_pure0 Tk rfl rfl rfl ?_
 refine go_nil ?_
 refine go_freeze_pt (b := bC) (by repeat constructor) ?_
 refine go_ent (relN none []) (fun _ _ => relN_nil) ?_
 refine go_env [(1, _), (2, _), (3, _)] ⟨rfl, rfl, rfl, trivial⟩ ?_
 iterate 5 first | refine go_seq ?_ | refine go_region rfl ?_ | refine go_val0 rfl (ldv Tk rfl rfl rfl) rfl ?_ | refine go_pure0 Tk rfl rfl rfl ?_
 refine go_call (joinHeads c CA cc CB cd pf none pn F [] N hs hok false hb) rfl rfl (by rfl) rfl (by repeat constructor) (by repeat constructor) (fun h => nomatch h) ?_
 rintro _ _ _ ⟨A9, c9, rfl, rfl, rfl⟩
 refine go_pure0 Tk rfl rfl rfl ?_
 refine go_nil ?_
 refine go_env [(6, _)] ⟨rfl, trivial⟩ ?_
 refine go_ret ⟨rfl, rfl⟩ _ _ (res1 (by rfl) (.tmp rfl)) ⟨A9, c9, rfl, rfl, rfl⟩ (by repeat constructor) (by repeat constructor)

set_option maxHeartbeats 2000000 in
set_option maxRecDepth 20000 in
theorem joinNews (c : Cl) (CA : Option Addr) (cc : Nat) (CB : Option Addr) (cd : Nat) (pf pg pn : Option Addr) (F R N : List Fa) (hs : JoinS F R N) (hok : c.ok) (hb : (goL c F R N c.b ch0 false).length ≤ 50000000) :
    Spec Try.prog 12 #[.agg #[.int .u32 c.h.p, .slice CA c.h.a.length cc, .slice CB c.b.length cd], .pointer pf, .pointer pg, .pointer pn] [sl tTm CA cc c.h.a, sl tLi CB cd c.b, relN pf F, relN pg R, relN pn N] [] (fun v Ps' Os' => ∃ A k, v = .slice A (headsC c F R N true).length k ∧ Ps' = [] ∧ Os' = [dl tFa 41 A k (headsC c F R N true)]) := by
 refine spec_of (fn := Try.f12) (args := [.agg #[.int .u32 c.h.p, .slice CA c.h.a.length cc, .slice CB c.b.length cd], .pointer pf, .pointer pg, .pointer pn]) 14 Try.func12 rfl (by kernel_rfl) Try.ntmps12 (Nat.le_of_ble_eq_true rfl) (fun w0 hp0 hf0 => ?_)
 refine go_seq ?_
 refine go_region rfl ?_
 refine go_box Tk rfl rfl rfl rfl (by rfl) rfl rfl (fun h => nomatch h) ?_
 intro bC
 refine go_pure0 Tk rfl rfl rfl ?_
 refine go_nil ?_
 refine go_freeze_pt (b := bC) (by repeat constructor) ?_
 refine go_env [(1, _), (2, _), (3, _), (4, _)] ⟨rfl, rfl, rfl, rfl, trivial⟩ ?_
 iterate 6 first | refine go_seq ?_ | refine go_region rfl ?_ | refine go_val0 rfl (ldv Tk rfl rfl rfl) rfl ?_ | refine go_pure0 Tk rfl rfl rfl ?_
 refine go_call (joinHeads c CA cc CB cd pf pg pn F R N hs hok true hb) rfl rfl (by rfl) rfl (by repeat constructor) (by repeat constructor) (fun h => nomatch h) ?_
 rintro _ _ _ ⟨A9, c9, rfl, rfl, rfl⟩
 refine go_pure0 Tk rfl rfl rfl ?_
 refine go_nil ?_
 refine go_env [(8, _)] ⟨rfl, trivial⟩ ?_
 refine go_ret ⟨rfl, rfl⟩ _ _ (res1 (by rfl) (.tmp rfl)) ⟨A9, c9, rfl, rfl, rfl⟩ (by repeat constructor) (by repeat constructor)

end Go.Proofs.Ytkhddfknpegpmaa.SL

/- The least facts that clauses leave as they are, round by round. -/
set_option linter.unusedVariables false
set_option linter.unusedSimpArgs false
namespace Go.Proofs.Ytkhddfknpegpmaa.SL
/-- What is Not is no head. -/
def notHead (l : List Cl) : Prop := ∀ c ∈ l, ∀ x ∈ c.b, x.no = true → ∀ d ∈ l, ¬ d.h.p = x.a.p
def fixP (l : List Cl) : Prop := (rightC l).2 = 0 ∧ notHead l
instance (l : List Cl) : Decidable (notHead l) := by unfold notHead; infer_instance
instance (l : List Cl) : Decidable (fixP l) := by unfold fixP; infer_instance
def fixR (l : List Cl) : Bool := decide (fixP l)
/-- Those of some facts that are not there, in order. -/
noncomputable def nws (S X : List Fa) : List Fa := fof (X.filter fun x => !decide (x ∈ S))
theorem mem_nws {S X : List Fa} {x : Fa} : x ∈ nws S X ↔ x ∈ X ∧ ¬ x ∈ S := by unfold nws; rw [mem_fof, List.mem_filter]; simp
theorem rises_nws (S X : List Fa) : rises (nws S X) := rises_fof _
theorem nws_snoc (S X : List Fa) (x : Fa) : nws S (X ++ [x]) = if x ∈ S then nws S X else fput (nws S X) x := by
  unfold nws
  rw [List.filter_append]
  by_cases e : x ∈ S
  · rw [if_pos e, List.filter_cons_of_neg (by simpa using e)]; simp
  · rw [if_neg e, List.filter_cons_of_pos (by simpa using e), List.filter_nil, fof_snoc]
theorem nws_sub {S X Y : List Fa} (h : ∀ x ∈ X, x ∈ Y) : (nws S X).length ≤ (nws S Y).length := sub_len (rises_nws _ _) fun x hx => by
  rw [mem_nws] at hx ⊢
  exact ⟨h x hx.1, hx.2⟩
theorem nws_ext {S X Y : List Fa} (h : ∀ x, ¬ x ∈ S → (x ∈ X ↔ x ∈ Y)) : nws S X = nws S Y := rises_ext (rises_nws _ _) (rises_nws _ _) fun x => by
  rw [mem_nws, mem_nws]
  exact ⟨fun ⟨a, b⟩ => ⟨(h x b).1 a, b⟩, fun ⟨a, b⟩ => ⟨(h x b).2 a, b⟩⟩
/-- All heads of some facts; of those with news among them. -/
noncomputable def allH (l : List Cl) (N S : List Fa) : List Fa := l.flatMap fun c => headsC c S [] N false
noncomputable def newH (l : List Cl) (N S R : List Fa) : List Fa := l.flatMap fun c => headsC c S R N true
noncomputable def nx (l : List Cl) (N S : List Fa) : List Fa := nws S (allH l N S)
noncomputable def nextS (l : List Cl) (N S : List Fa) : List Fa := (nx l N S).foldl fput S
theorem mem_allH {l : List Cl} {N S : List Fa} {x : Fa} : x ∈ allH l N S ↔ ∃ c ∈ l, x ∈ headsC c S [] N false := by unfold allH; rw [List.mem_flatMap]
theorem mem_newH {l : List Cl} {N S R : List Fa} {x : Fa} : x ∈ newH l N S R ↔ ∃ c ∈ l, x ∈ headsC c S R N true := by unfold newH; rw [List.mem_flatMap]
theorem mem_nextS {l : List Cl} {N S : List Fa} {x : Fa} : x ∈ nextS l N S ↔ x ∈ S ∨ x ∈ allH l N S := by
  unfold nextS
  rw [foldl_mem]
  unfold nx
  rw [mem_nws]
  constructor
  · rintro (h | h)
    · exact .inl h
    · exact .inr h.1
  · rintro (h | h)
    · exact .inl h
    · by_cases e : x ∈ S
      · exact .inl e
      · exact .inr ⟨h, e⟩
theorem rises_nextS {l : List Cl} {N S : List Fa} (h : rises S) : rises (nextS l N S) := foldl_rises _ _ h
/-- Where the last round's news are known, these alone matter. -/
theorem semi {l : List Cl} (ho : ∀ c ∈ l, c.ok) (N S : List Fa) : nws (nextS l N S) (newH l N (nextS l N S) (nx l N S)) = nx l N (nextS l N S) := nws_ext fun x hx => by
  rw [mem_newH, mem_allH]
  constructor
  · rintro ⟨c, hc, h⟩
    rw [mem_headsC' (ho c hc)] at h
    exact ⟨c, hc, (mem_headsC' (ho c hc)).2 ⟨h.1, h.2.any _⟩⟩
  · rintro ⟨c, hc, h⟩
    rw [mem_headsC' (ho c hc)] at h
    obtain ⟨hr, s, h1, h2, _, h4⟩ := h
    refine ⟨c, hc, (mem_headsC' (ho c hc)).2 ⟨hr, s, h1, h2, fun _ => ?_, h4⟩⟩
    by_cases q : ∃ l' ∈ c.b, l'.no = false ∧ ap s l'.a ∈ nx l N S
    · exact q
    · exfalso
      refine hx (mem_nextS.2 (.inr (mem_allH.2 ⟨c, hc, (mem_headsC' (ho c hc)).2 ⟨hr, s, fun m hm e => ?_, h2, fun e => (nomatch e), h4⟩⟩)))
      have := h1 m hm e
      unfold nextS at this
      rcases (foldl_mem _ _ _).1 this with h | h
      · exact h
      · exact absurd ⟨m, hm, e, h⟩ q
/-- The rounds. -/
noncomputable def Sq (l : List Cl) (N : List Fa) : Nat → List Fa
  | 0 => N
  | k + 1 => nextS l N (Sq l N k)
theorem rises_Sq {l : List Cl} {N : List Fa} (h : rises N) : ∀ k, rises (Sq l N k)
  | 0 => h
  | k + 1 => rises_nextS (rises_Sq h k)
theorem fput_len_new {l : List Fa} {q : Fa} (h : ¬ q ∈ l) : (fput l q).length = l.length + 1 := by rw [fput_no h]; simp; have := at_le l q; omega
theorem foldl_len_new : ∀ {X S : List Fa}, X.Nodup → (∀ x ∈ X, ¬ x ∈ S) → (X.foldl fput S).length = S.length + X.length
  | [], S, _, _ => by simp
  | x :: X, S, hn, hd => by
    rw [List.nodup_cons] at hn
    have hd' : ∀ y ∈ X, ¬ y ∈ fput S x := fun y hy q => (mem_fput.1 q).elim (fun e => hn.1 (by rw [← e]; exact hy)) (hd y (.tail _ hy))
    rw [List.foldl_cons, foldl_len_new hn.2 hd', fput_len_new (hd x (.head _)), List.length_cons]
    omega
theorem nextS_len (l : List Cl) (N S : List Fa) : (nextS l N S).length = S.length + (nx l N S).length := foldl_len_new (rises_nodup (rises_nws _ _)) fun x hx => (mem_nws.1 hx).2
theorem Sq_len (l : List Cl) (N : List Fa) (k : Nat) : (Sq l N (k + 1)).length = (Sq l N k).length + (nx l N (Sq l N k)).length := nextS_len l N _
theorem Sq_up (l : List Cl) (N : List Fa) (k : Nat) : ∀ x ∈ Sq l N k, x ∈ Sq l N (k + 1) := fun x hx => mem_nextS.2 (.inl hx)
theorem Sq_mono (l : List Cl) (N : List Fa) {j k : Nat} (h : j ≤ k) : ∀ x ∈ Sq l N j, x ∈ Sq l N k := by
  induction h with
  | refl => exact fun x hx => hx
  | step _ ih => exact fun x hx => Sq_up l N _ x (ih x hx)
theorem Sq_lens (l : List Cl) (N : List Fa) {j k : Nat} (h : j ≤ k) : (Sq l N j).length ≤ (Sq l N k).length := by
  induction h with
  | refl => exact Nat.le_refl _
  | step _ ih => rw [Sq_len]; omega
/-- What fix.Least answers. -/
inductive LeastR (l : List Cl) (N : List Fa) (most : Int) : Option (List Fa) → Nat → Int → Prop where
  | arg : (most < 0 ∨ fixR l = false) → LeastR l N most none 0 1
  | many (k : Nat) : 0 ≤ most → fixR l = true → most < ((Sq l N k).length : Int) → LeastR l N most none 0 6
  | ok (k : Nat) : 0 ≤ most → fixR l = true → ((Sq l N k).length : Int) ≤ most → (∀ j < k, ¬ nx l N (Sq l N j) = []) → nx l N (Sq l N k) = [] → LeastR l N most (some (Sq l N k)) (k + 1) 0
theorem heads_ok {c : Cl} (ho : c.ok) {F R N : List Fa} {some : Bool} (hF : ∀ x ∈ F, x.ok) {x : Fa} (h : x ∈ headsC c F R N some) : x.ok ∧ x.a.length ≤ 6 := by
  rw [mem_headsC' ho] at h
  obtain ⟨hr, s, h1, _, _, rfl⟩ := h
  obtain ⟨q1, q2, q3⟩ := right_iff.1 hr
  refine ⟨⟨ho.1.1, fun n hn => ?_⟩, ?_⟩
  · simp only [ap, List.mem_map] at hn
    obtain ⟨t, ht, rfl⟩ := hn
    unfold tv
    split
    · rename_i e
      obtain ⟨l, hl, e1, u, hu, e2, e3⟩ := mem_heldBy.1 (q2.1 t ht e)
      have := (hF _ (h1 l hl e1)).2 (s u.n) (List.mem_map.2 ⟨u, hu, by unfold tv; rw [if_pos e2]⟩)
      rwa [e3] at this
    · exact ho.1.2 t ht
  · simp only [ap, List.length_map]
    exact may_len6 (mayC_of q1).2.1
theorem Sq_ok {l : List Cl} {N : List Fa} (hl : ∀ c ∈ l, c.ok) (hN : ∀ x ∈ N, x.ok ∧ x.a.length ≤ 100000) : ∀ k, ∀ x ∈ Sq l N k, x.ok ∧ x.a.length ≤ 100000
  | 0 => hN
  | k + 1 => fun x hx => by
    rcases mem_nextS.1 hx with h | h
    · exact Sq_ok hl hN k x h
    · obtain ⟨c, hc, h⟩ := mem_allH.1 h
      have := heads_ok (hl c hc) (fun y hy => (Sq_ok hl hN k y hy).1) h
      exact ⟨this.1, by omega⟩
/-- The news of the round before. -/
noncomputable def Rq (l : List Cl) (N : List Fa) : Nat → List Fa
  | 0 => []
  | k + 1 => nx l N (Sq l N k)
/-- What a clause is asked in a round. -/
noncomputable def askH (l : List Cl) (N : List Fa) : Nat → Cl → List Fa
  | 0, c => headsC c (Sq l N 0) [] N false
  | k + 1, c => headsC c (Sq l N (k + 1)) (Rq l N (k + 1)) N true
theorem ask_news {l : List Cl} (ho : ∀ c ∈ l, c.ok) (N : List Fa) : ∀ k, nws (Sq l N k) (l.flatMap (askH l N k)) = nx l N (Sq l N k)
  | 0 => rfl
  | k + 1 => semi ho N (Sq l N k)
end Go.Proofs.Ytkhddfknpegpmaa.SL

/- Contracts of functions of the program (Fixa): what each call comes to, for the laws' proofs. -/
set_option linter.unusedVariables false
set_option linter.unusedSimpArgs false
namespace Go.Proofs.Ytkhddfknpegpmaa.SL
open Go 

set_option maxHeartbeats 2000000 in
set_option maxRecDepth 20000 in
theorem fixRight (l : List Cl) (LA : Option Addr) (lc : Nat) :
    Spec Try.prog 39 #[.slice LA l.length lc] [sl tCl LA lc l] [] (fun v Ps' Os' => v = .bool (fixR l) ∧ Ps' = [] ∧ Os' = []) := by
 refine spec_of (fn := Try.f39) (args := [.slice LA l.length lc]) 56 Try.func39 rfl (by kernel_rfl) Try.ntmps39 (Nat.le_of_ble_eq_true rfl) (fun w0 hp0 hf0 => ?_)
 refine go_seq ?_
 refine go_region rfl ?_
 refine go_pure0 Tk rfl rfl rfl ?_
 refine go_nil ?_
 refine go_env [(0, _)] ⟨rfl, trivial⟩ ?_
 refine go_seq ?_
 refine go_seq ?_
 refine go_region rfl ?_
 refine go_pure0 Tk rfl rfl rfl ?_
 refine go_call (safeRight LA lc l) rfl rfl (by rfl) rfl (by repeat constructor) (by repeat constructor) (fun h => nomatch h) ?_
 rintro _ _ _ ⟨rfl, rfl, rfl⟩
 iterate 5 refine go_pure0 Tk rfl rfl rfl ?_
 refine go_nil ?_
 refine go_env [(0, _), (4, _)] ⟨rfl, rfl, trivial⟩ ?_
 iterate 4 first | refine go_seq ?_ | refine go_region rfl ?_ | refine go_pure0 Tk rfl rfl rfl ?_
 refine go_nil ?_
 refine go_env [(0, _), (18, _)] ⟨rfl, rfl, trivial⟩ ?_
 refine go_condN rfl ?_ ?_
 ·intro g1
  refine go_seq ?_
  refine go_region rfl ?_
  refine go_pure0 Tk rfl rfl rfl ?_
  refine go_nil ?_
  refine go_env [(2, _)] ⟨rfl, trivial⟩ ?_
  refine go_ret ⟨rfl, rfl⟩ _ _ (res1 (by rfl) (.tmp rfl)) ⟨by rw [show fixR l = false from decide_eq_false (fun q => g1 q.1)], rfl, rfl⟩ (by repeat constructor) (by repeat constructor)
 ·intro g1
  refine go_skip ?_
  refine go_seq ?_
  refine go_region rfl ?_
  refine go_makemap (kk := .u32) rfl rfl rfl (by first | exact (fun _ _ _ => satA) | exact (fun h => nomatch h) | exact (fun h => nomatch (Eq.symm h).trans (show _ = false by kernel_rfl))) ?_
  intro bm
  refine go_pure0 Tk rfl rfl rfl ?_
  refine go_nil ?_
  refine go_env [(0, _), (5, _)] ⟨rfl, rfl, trivial⟩ ?_
  iterate 2 refine go_seq ?_
  refine go_len (xs := l) (by repeat constructor) (fun l0 m0 => ?_)
  iterate 4 first | refine go_region rfl ?_ | refine go_pure0 Tk rfl rfl rfl ?_
  refine go_nil ?_
  refine go_env [(0, _), (5, _), (20, _), (21, _), (22, _)] ⟨rfl, rfl, rfl, rfl, rfl, trivial⟩ ?_
  refine go_block ?_
  refine go_loop' (X := Nat × List (Int × Value)) (fun x => [(22, .int .i64 (x.1 : Int))]) [(0, _), (5, _), (20, _), (21, _)] (fun x => [mapO bm .u32 x.2]) (fun x => x.1 ≤ l.length ∧ Ones x.2 ((l.take x.1).map fun c => c.h.p)) (fun x => l.length - x.1) ((0, [])) ⟨rfl, rfl, rfl, rfl, rfl, trivial⟩ (by repeat constructor) ⟨by omega, Ones.nil⟩ ?_
  intro ⟨k, m⟩ ⟨hk, hm⟩
  simp only at hk hm ⊢
  refine go_seq ?_
  refine go_region rfl ?_
  refine go_pure0 Tk rfl rfl rfl ?_
  refine go_nil ?_
  refine go_env [(0, _), (5, _), (20, _), (21, _), (22, _), (23, _)] ⟨rfl, rfl, rfl, rfl, rfl, rfl, trivial⟩ ?_
  refine go_seq ?_
  refine go_condD rfl ?_ ?_
  ·intro hq1
   iterate 4 first | refine go_skip ?_ | refine go_seq ?_ | refine go_block ?_
   refine go_elem_cl (xs := l) (by repeat constructor) (k) (List.getElem?_eq_getElem (by omega)) (fun b1 o1 A1 c1 B1 d1 hA => ?_); cases hA
   refine go_region rfl ?_
   refine go_val0 rfl (idx_val Tk rfl rfl rfl rfl rfl (by omega)) rfl ?_
   refine go_val0 rfl (ldv Tk rfl rfl rfl) rfl ?_
   refine go_alloc Tk rfl rfl rfl (by rfl) rfl rfl (fun h => nomatch h) ?_
   intro bT
   refine go_store Tk rfl rfl rfl rfl rfl rfl (by repeat constructor) rfl rfl (by rfl) (fun h => nomatch h) ?_
   refine go_nil ?_
   refine go_freeze_pt (b := bT) (by repeat constructor) ?_
   refine go_env [(0, _), (5, _), (7, _), (20, _), (21, _), (22, _)] ⟨rfl, rfl, rfl, rfl, rfl, rfl, trivial⟩ ?_
   iterate 5 first | refine go_region rfl ?_ | refine go_pure0 Tk rfl rfl rfl ?_ | refine go_val0 rfl (ldv Tk rfl rfl rfl) rfl ?_
   refine go_mset (m := m) Tk rfl rfl rfl rfl rfl rfl rfl rfl (by repeat constructor) (fun h => nomatch h) ?_
   refine go_nil ?_
   refine go_env [(0, _), (5, _), (20, _), (21, _), (22, _)] ⟨rfl, rfl, rfl, rfl, rfl, trivial⟩ ?_
   refine go_blk ?_
   iterate 3 first | refine go_region rfl ?_ | refine go_pure0 Tk rfl rfl rfl ?_
   refine go_nil ?_
   refine go_i64 22 rfl (by omega) (by omega) ?_
   refine go_back (k + 1, _) ⟨rfl, rfl, rfl, rfl, rfl, trivial⟩ (by repeat constructor) (by repeat constructor) ⟨by show k + 1 ≤ _; omega, (hm.set l[k].h.p).same (fun z => by simp only [List.take_succ_eq_append_getElem (show k < l.length by omega), List.map_append, List.mem_append, List.mem_cons, List.map_cons, List.map_nil, List.not_mem_nil, or_false]; exact or_comm)⟩ (by show l.length - (k + 1) < l.length - k; omega)
  ·intro hq1
   iterate 3 first | refine go_exit rfl ?_ | refine go_seq ?_
   rw [List.take_of_length_le (by omega)] at hm
   iterate 4 first | refine go_region rfl ?_ | refine go_pure0 Tk rfl rfl rfl ?_
   refine go_nil ?_
   refine go_env [(5, _), (31, _), (32, _), (33, _)] ⟨rfl, rfl, rfl, rfl, trivial⟩ ?_
   refine go_block ?_
   refine go_loop' (X := Nat) (fun i => [(33, .int .i64 (i : Int))]) [(5, _), (31, _), (32, _)] (fun _ => []) (fun i => i ≤ l.length ∧ ∀ c ∈ l.take i, ∀ x ∈ c.b, x.no = true → ∀ d ∈ l, ¬ d.h.p = x.a.p) (fun i => l.length - i) (0) ⟨rfl, rfl, rfl, rfl, trivial⟩ (by repeat constructor) ⟨by omega, by simp⟩ ?_
   intro i ⟨hi, hz⟩
   refine go_seq ?_
   refine go_region rfl ?_
   refine go_pure0 Tk rfl rfl rfl ?_
   refine go_nil ?_
   refine go_env [(5, _), (31, _), (32, _), (33, _), (34, _)] ⟨rfl, rfl, rfl, rfl, rfl, trivial⟩ ?_
   refine go_seq ?_
   refine go_condD rfl ?_ ?_
   ·intro hq2
    iterate 4 first | refine go_skip ?_ | refine go_seq ?_ | refine go_block ?_
    refine go_elem_cl (xs := l) (by repeat constructor) (i) (List.getElem?_eq_getElem (by omega)) (fun b2 o2 A2 c2 B2 d2 hA => ?_); cases hA
    refine go_region rfl ?_
    refine go_val0 rfl (idx_val Tk rfl rfl rfl rfl rfl (by omega)) rfl ?_
    refine go_val0 rfl (ldv Tk rfl rfl rfl) rfl ?_
    refine go_alloc Tk rfl rfl rfl (by rfl) rfl rfl (fun h => nomatch h) ?_
    intro bU
    refine go_store Tk rfl rfl rfl rfl rfl rfl (by repeat constructor) rfl rfl (by rfl) (fun h => nomatch h) ?_
    refine go_nil ?_
    refine go_freeze_pt (b := bU) (by repeat constructor) ?_
    refine go_env [(5, _), (9, _), (31, _), (32, _), (33, _)] ⟨rfl, rfl, rfl, rfl, rfl, trivial⟩ ?_
    refine go_seq ?_
    refine go_len (xs := l[i].b) (by repeat constructor) (fun l2 m2 => ?_)
    iterate 5 first | refine go_region rfl ?_ | refine go_pure0 Tk rfl rfl rfl ?_ | refine go_val0 rfl (ldv Tk rfl rfl rfl) rfl ?_
    refine go_nil ?_
    refine go_env [(5, _), (31, _), (32, _), (33, _), (38, _), (39, _), (40, _)] ⟨rfl, rfl, rfl, rfl, rfl, rfl, rfl, trivial⟩ ?_
    refine go_block ?_
    refine go_loop' (X := Nat) (fun j => [(40, .int .i64 (j : Int))]) [(5, _), (31, _), (32, _), (33, _), (38, _), (39, _)] (fun _ => []) (fun j => j ≤ l[i].b.length ∧ ∀ x ∈ l[i].b.take j, x.no = true → ∀ d ∈ l, ¬ d.h.p = x.a.p) (fun j => l[i].b.length - j) (0) ⟨rfl, rfl, rfl, rfl, rfl, rfl, rfl, trivial⟩ (by repeat constructor) ⟨by omega, by simp⟩ ?_
    intro j ⟨hj, hy⟩
    refine go_seq ?_
    refine go_region rfl ?_
    refine go_pure0 Tk rfl rfl rfl ?_
    refine go_nil ?_
    refine go_env [(5, _), (31, _), (32, _), (33, _), (38, _), (39, _), (40, _), (41, _)] ⟨rfl, rfl, rfl, rfl, rfl, rfl, rfl, rfl, trivial⟩ ?_
    refine go_seq ?_
    refine go_condD rfl ?_ ?_
    ·intro hq3
     iterate 4 first | refine go_skip ?_ | refine go_seq ?_ | refine go_block ?_
     refine go_elem_li (xs := l[i].b) (by repeat constructor) (j) (List.getElem?_eq_getElem (by omega)) (fun b3 o3 A3 c3 hA => ?_); cases hA
     refine go_region rfl ?_
     refine go_val0 rfl (idx_val Tk rfl rfl rfl rfl rfl (by omega)) rfl ?_
     refine go_val0 rfl (ldv Tk rfl rfl rfl) rfl ?_
     refine go_alloc Tk rfl rfl rfl (by rfl) rfl rfl (fun h => nomatch h) ?_
     intro bV
     refine go_store Tk rfl rfl rfl rfl rfl rfl (by repeat constructor) rfl rfl (by rfl) (fun h => nomatch h) ?_
     refine go_nil ?_
     refine go_freeze_pt (b := bV) (by repeat constructor) ?_
     refine go_env [(5, _), (11, _), (31, _), (32, _), (33, _), (38, _), (39, _), (40, _)] ⟨rfl, rfl, rfl, rfl, rfl, rfl, rfl, rfl, trivial⟩ ?_
     iterate 5 first | refine go_seq ?_ | refine go_region rfl ?_ | refine go_pure0 Tk rfl rfl rfl ?_ | refine go_val0 rfl (ldv Tk rfl rfl rfl) rfl ?_
     refine go_known 46 rfl ?_ ?_
     ·intro g2
      (try simp only [decide_eq_true_eq, decide_eq_false_iff_not, Bool.not_eq_true', Bool.not_eq_false', Bool.not_eq_eq_eq_not, Bool.not_true, Bool.not_false, Int.not_lt, Int.not_le, beq_iff_eq, beq_eq_false_iff_ne, ne_eq] at g2)
      iterate 4 first | refine go_pure0 Tk rfl rfl rfl ?_ | refine go_val0 rfl (ldv Tk rfl rfl rfl) rfl ?_
      refine go_val0 rfl (lookup_val (m := m) (n := l[i].b[j].a.p) (c := false) (v := (mget m l[i].b[j].a.p).getD (.int .i64 0)) Tk rfl rfl rfl rfl rfl rfl (by repeat constructor) rfl) rfl ?_
      refine go_re 51 (.int .i64 (if l[i].b[j].a.p ∈ (l.map fun c => c.h.p) then 1 else 0)) (by show some _ = some _; rw [hm]; split <;> rfl) ?_
      iterate 2 refine go_pure0 Tk rfl rfl rfl ?_
      refine go_nil ?_
      refine go_env [(5, _), (31, _), (32, _), (33, _), (38, _), (39, _), (40, _), (47, _), (48, _), (49, _), (50, _), (51, _), (52, _), (53, _)] ⟨rfl, rfl, rfl, rfl, rfl, rfl, rfl, rfl, rfl, rfl, rfl, rfl, rfl, rfl, trivial⟩ ?_
      refine go_cond rfl ?_ ?_
      ·intro g3
       (try simp only [decide_eq_true_eq, decide_eq_false_iff_not, Bool.not_eq_true', Bool.not_eq_false', Bool.not_eq_eq_eq_not, Bool.not_true, Bool.not_false, Int.not_lt, Int.not_le, beq_iff_eq, beq_eq_false_iff_ne, ne_eq] at g3)
       have g4 : l[i].b[j].a.p ∈ (l.map fun c => c.h.p) := Decidable.byContradiction fun h => by rw [if_neg h] at g3; omega
       refine go_seq ?_
       refine go_region rfl ?_
       refine go_pure0 Tk rfl rfl rfl ?_
       refine go_nil ?_
       refine go_env [(2, _)] ⟨rfl, trivial⟩ ?_
       refine go_ret ⟨rfl, rfl⟩ _ _ (res1 (by rfl) (.tmp rfl)) ⟨by rw [show fixR l = false from decide_eq_false (fun q => by obtain ⟨d, hd, e⟩ := List.mem_map.1 g4; exact q.2 l[i] (List.getElem_mem _) _ (List.getElem_mem _) g2 d hd e)], rfl, rfl⟩ (by repeat constructor) (by repeat constructor)
      ·intro g3
       (try simp only [decide_eq_true_eq, decide_eq_false_iff_not, Bool.not_eq_true', Bool.not_eq_false', Bool.not_eq_eq_eq_not, Bool.not_true, Bool.not_false, Int.not_lt, Int.not_le, beq_iff_eq, beq_eq_false_iff_ne, ne_eq] at g3)
       have g4 : ∀ d ∈ l, ¬ d.h.p = l[i].b[j].a.p := fun d hd e => by rw [if_pos (List.mem_map.2 ⟨d, hd, e⟩)] at g3; omega
       refine go_skip ?_
       refine go_blk ?_
       iterate 3 first | refine go_region rfl ?_ | refine go_pure0 Tk rfl rfl rfl ?_
       refine go_nil ?_
       refine go_i64 40 rfl (by omega) (by omega) ?_
       refine go_back (j + 1) ⟨rfl, rfl, rfl, rfl, rfl, rfl, rfl, trivial⟩ (by repeat constructor) (by repeat constructor) (⟨by omega, mem_take_next (by omega) hy (fun q => by first | exact absurd (g2.symm.trans q) (by decide) | exact g4)⟩) (by omega)
     ·intro g2
      (try simp only [decide_eq_true_eq, decide_eq_false_iff_not, Bool.not_eq_true', Bool.not_eq_false', Bool.not_eq_eq_eq_not, Bool.not_true, Bool.not_false, Int.not_lt, Int.not_le, beq_iff_eq, beq_eq_false_iff_ne, ne_eq] at g2)
      iterate 7 first | refine go_skip0 rfl rfl ?_ | refine go_pure0 Tk rfl rfl rfl ?_
      refine go_nil ?_
      refine go_env [(5, _), (31, _), (32, _), (33, _), (38, _), (39, _), (40, _), (47, _), (48, _), (49, _), (50, _), (51, _), (52, _), (53, _)] ⟨rfl, rfl, rfl, rfl, rfl, rfl, rfl, rfl, rfl, rfl, rfl, rfl, rfl, rfl, trivial⟩ ?_
      refine go_cond_f rfl ?_
      refine go_skip ?_
      refine go_blk ?_
      iterate 3 first | refine go_region rfl ?_ | refine go_pure0 Tk rfl rfl rfl ?_
      refine go_nil ?_
      refine go_i64 40 rfl (by omega) (by omega) ?_
      refine go_back (j + 1) ⟨rfl, rfl, rfl, rfl, rfl, rfl, rfl, trivial⟩ (by repeat constructor) (by repeat constructor) (⟨by omega, mem_take_next (by omega) hy (fun q => by first | exact absurd (g2.symm.trans q) (by decide) | exact g4)⟩) (by omega)
    ·intro hq3
     refine go_exit rfl ?_
     refine go_blk ?_
     iterate 3 first | refine go_region rfl ?_ | refine go_pure0 Tk rfl rfl rfl ?_
     refine go_nil ?_
     refine go_i64 33 rfl (by omega) (by omega) ?_
     refine go_back (i + 1) ⟨rfl, rfl, rfl, rfl, trivial⟩ (by repeat constructor) (by repeat constructor) (⟨by omega, mem_take_next (by omega) hz (by rw [List.take_of_length_le (by omega)] at hy; exact hy)⟩) (by omega)
   ·intro hq2
    refine go_exit rfl ?_
    refine go_seq ?_
    refine go_region rfl ?_
    refine go_pure0 Tk rfl rfl rfl ?_
    refine go_nil ?_
    refine go_env [(2, _)] ⟨rfl, trivial⟩ ?_
    refine go_ret ⟨rfl, rfl⟩ _ _ (res1 (by rfl) (.tmp rfl)) ⟨by rw [show fixR l = true from decide_eq_true ⟨by simpa using g1, fun c hc => by rw [List.take_of_length_le (by omega)] at hz; exact hz c hc⟩], rfl, rfl⟩ (by repeat constructor) (by repeat constructor)

/-- All is one's own while a clause is asked. -/
theorem joinHeadsR (c : Cl) (CA : Option Addr) (cc : Nat) (CB : Option Addr) (cd : Nat) (ba : Nat) (pn : Option Addr) (F N : List Fa) (hs : JoinS F [] N) (hok : c.ok) (hb : (goL c F [] N c.b ch0 true).length ≤ 50000000) : Spec Try.prog 10 #[.agg #[.int .u32 c.h.p, .slice CA c.h.a.length cc, .slice CB c.b.length cd], .pointer (some ⟨ba, 0, none⟩), .pointer pn] [sl tTm CA cc c.h.a, sl tLi CB cd c.b, relN pn N] [relO ba F] (fun v Ps' Os' => ∃ A k, v = .slice A (headsC c F [] N false).length k ∧ Ps' = [] ∧ Os' = [relO ba F, dl tFa 41 A k (headsC c F [] N false)]) :=
  (((joinHeadsAll c CA cc CB cd (some ⟨ba, 0, none⟩) pn F N hs hok hb).less (Ps' := [relN (some ⟨ba, 0, none⟩) F, sl tTm CA cc c.h.a, sl tLi CB cd c.b, relN pn N]) (fun q hq => by
    simp only [List.mem_cons, List.not_mem_nil, or_false] at hq ⊢
    rcases hq with h | h | h | h <;> simp [h])).lend (relO ba F) (fun hp h1 H l1 l2 q => relN_some (lend_rel hp h1 H l1 l2 q)) (fun v P' O' ⟨A, k, _, h2, h3⟩ => ⟨h2, fun B hB => by rw [h3, List.mem_singleton] at hB; subst hB; exact fun _ _ _ q => q⟩)).imp fun v P' O' ⟨O2, ⟨A, k, h1, _, h3⟩, h4, h5⟩ => ⟨A, k, h1, h4, by rw [h5, h3]⟩

theorem joinNewsR (c : Cl) (CA : Option Addr) (cc : Nat) (CB : Option Addr) (cd : Nat) (ba : Nat) (pg pn : Option Addr) (F R N : List Fa) (hs : JoinS F R N) (hok : c.ok) (hb : (goL c F R N c.b ch0 false).length ≤ 50000000) : Spec Try.prog 12 #[.agg #[.int .u32 c.h.p, .slice CA c.h.a.length cc, .slice CB c.b.length cd], .pointer (some ⟨ba, 0, none⟩), .pointer pg, .pointer pn] [sl tTm CA cc c.h.a, sl tLi CB cd c.b, relN pg R, relN pn N] [relO ba F] (fun v Ps' Os' => ∃ A k, v = .slice A (headsC c F R N true).length k ∧ Ps' = [] ∧ Os' = [relO ba F, dl tFa 41 A k (headsC c F R N true)]) :=
  (((joinNews c CA cc CB cd (some ⟨ba, 0, none⟩) pg pn F R N hs hok hb).less (Ps' := [relN (some ⟨ba, 0, none⟩) F, sl tTm CA cc c.h.a, sl tLi CB cd c.b, relN pg R, relN pn N]) (fun q hq => by
    simp only [List.mem_cons, List.not_mem_nil, or_false] at hq ⊢
    rcases hq with h | h | h | h | h <;> simp [h])).lend (relO ba F) (fun hp h1 H l1 l2 q => relN_some (lend_rel hp h1 H l1 l2 q)) (fun v P' O' ⟨A, k, _, h2, h3⟩ => ⟨h2, fun B hB => by rw [h3, List.mem_singleton] at hB; subst hB; exact fun _ _ _ q => q⟩)).imp fun v P' O' ⟨O2, ⟨A, k, h1, _, h3⟩, h4, h5⟩ => ⟨A, k, h1, h4, by rw [h5, h3]⟩

set_option maxHeartbeats 2000000 in
set_option maxRecDepth 20000 in
theorem least1 (c : Cl) (CA : Option Addr) (cc : Nat) (CB : Option Addr) (cd : Nat) (b6 b4 ba : Nat) (pn : Option Addr) (F N : List Fa) (hs : JoinS F [] N) (hok : c.ok) (hb : (goL c F [] N c.b ch0 true).length ≤ 50000000) :
    Spec Try.prog 40 #[.agg #[.int .u32 c.h.p, .slice CA c.h.a.length cc, .slice CB c.b.length cd], .pointer (some ⟨b6, 0, none⟩), .pointer (some ⟨b4, 0, none⟩)] [sl tTm CA cc c.h.a, sl tLi CB cd c.b, cl b4 0 [.pointer pn], relN pn N] [pt b6 33 [.pointer (some ⟨ba, 0, none⟩)], relO ba F] (fun v Ps' Os' => ∃ A k, v = .slice A (headsC c F [] N false).length k ∧ Ps' = [] ∧ Os' = [pt b6 33 [.pointer (some ⟨ba, 0, none⟩)], relO ba F, dl tFa 41 A k (headsC c F [] N false)]) := by
 refine spec_of (fn := Try.f40) (args := [.agg #[.int .u32 c.h.p, .slice CA c.h.a.length cc, .slice CB c.b.length cd], .pointer (some ⟨b6, 0, none⟩), .pointer (some ⟨b4, 0, none⟩)]) 9 Try.func40 rfl (by kernel_rfl) Try.ntmps40 (Nat.le_of_ble_eq_true rfl) (fun w0 hp0 hf0 => ?_)
 refine go_seq ?_
 refine go_region rfl ?_
 refine go_box Tk rfl rfl rfl rfl (by rfl) rfl rfl (fun h => nomatch h) ?_
 intro bC
 refine go_pure0 Tk rfl rfl rfl ?_
 refine go_nil ?_
 refine go_freeze_pt (b := bC) (by repeat constructor) ?_
 refine go_env [(1, _), (2, _), (3, _)] ⟨rfl, rfl, rfl, trivial⟩ ?_
 iterate 5 first | refine go_seq ?_ | refine go_region rfl ?_ | refine go_val0 rfl (ldv Tk rfl rfl rfl) rfl ?_
 refine go_call (joinHeadsR c CA cc CB cd ba pn F N hs hok hb) rfl rfl (by rfl) rfl (by repeat constructor) (by repeat constructor) (fun h => nomatch h) ?_
 rintro _ _ _ ⟨A9, k9, rfl, rfl, rfl⟩
 refine go_pure0 Tk rfl rfl rfl ?_
 refine go_nil ?_
 refine go_env [(4, _)] ⟨rfl, trivial⟩ ?_
 refine go_ret ⟨rfl, rfl⟩ _ _ (res1 (by rfl) (.tmp rfl)) ⟨A9, k9, rfl, rfl, rfl⟩ (by repeat constructor) (by repeat constructor)

set_option maxHeartbeats 2000000 in
set_option maxRecDepth 20000 in
theorem least2 (c : Cl) (CA : Option Addr) (cc : Nat) (CB : Option Addr) (cd : Nat) (b6 bg b4 ba : Nat) (pg pn : Option Addr) (F R N : List Fa) (hs : JoinS F R N) (hok : c.ok) (hb : (goL c F R N c.b ch0 false).length ≤ 50000000) :
    Spec Try.prog 42 #[.agg #[.int .u32 c.h.p, .slice CA c.h.a.length cc, .slice CB c.b.length cd], .pointer (some ⟨b6, 0, none⟩), .pointer (some ⟨bg, 0, none⟩), .pointer (some ⟨b4, 0, none⟩)] [sl tTm CA cc c.h.a, sl tLi CB cd c.b, cl bg 0 [.pointer pg], relN pg R, cl b4 0 [.pointer pn], relN pn N] [pt b6 33 [.pointer (some ⟨ba, 0, none⟩)], relO ba F] (fun v Ps' Os' => ∃ A k, v = .slice A (headsC c F R N true).length k ∧ Ps' = [] ∧ Os' = [pt b6 33 [.pointer (some ⟨ba, 0, none⟩)], relO ba F, dl tFa 41 A k (headsC c F R N true)]) := by
 refine spec_of (fn := Try.f42) (args := [.agg #[.int .u32 c.h.p, .slice CA c.h.a.length cc, .slice CB c.b.length cd], .pointer (some ⟨b6, 0, none⟩), .pointer (some ⟨bg, 0, none⟩), .pointer (some ⟨b4, 0, none⟩)]) 11 Try.func42 rfl (by kernel_rfl) Try.ntmps42 (Nat.le_of_ble_eq_true rfl) (fun w0 hp0 hf0 => ?_)
 refine go_seq ?_
 refine go_region rfl ?_
 refine go_box Tk rfl rfl rfl rfl (by rfl) rfl rfl (fun h => nomatch h) ?_
 intro bC
 refine go_pure0 Tk rfl rfl rfl ?_
 refine go_nil ?_
 refine go_freeze_pt (b := bC) (by repeat constructor) ?_
 refine go_env [(1, _), (2, _), (3, _), (4, _)] ⟨rfl, rfl, rfl, rfl, trivial⟩ ?_
 iterate 6 first | refine go_seq ?_ | refine go_region rfl ?_ | refine go_val0 rfl (ldv Tk rfl rfl rfl) rfl ?_
 refine go_call (joinNewsR c CA cc CB cd ba pg pn F R N hs hok hb) rfl rfl (by rfl) rfl (by repeat constructor) (by repeat constructor) (fun h => nomatch h) ?_
 rintro _ _ _ ⟨A9, k9, rfl, rfl, rfl⟩
 refine go_pure0 Tk rfl rfl rfl ?_
 refine go_nil ?_
 refine go_env [(5, _)] ⟨rfl, trivial⟩ ?_
 refine go_ret ⟨rfl, rfl⟩ _ _ (res1 (by rfl) (.tmp rfl)) ⟨A9, k9, rfl, rfl, rfl⟩ (by repeat constructor) (by repeat constructor)

theorem pre_mem {l : List Cl} {hd : Cl → List Fa} {k j : Nat} (hk : k < l.length) {x : Fa} (h : x ∈ (l.take k).flatMap hd ++ (hd l[k]).take j) : x ∈ l.flatMap hd := by
  rw [List.mem_flatMap]
  rcases List.mem_append.1 h with h | h
  · obtain ⟨c, hc, h⟩ := List.mem_flatMap.1 h
    exact ⟨c, List.mem_of_mem_take hc, h⟩
  · exact ⟨l[k], List.getElem_mem _, List.mem_of_mem_take h⟩

set_option maxHeartbeats 2000000 in
set_option maxRecDepth 20000 in
theorem fixNews (l : List Cl) (LA : Option Addr) (lc : Nat) (b6 ba : Nat) (F : List Fa) (g : FuncId) (caps : Array Value) (PK : PA) (hd : Cl → List Fa) (most : Int) (hask : ∀ c ∈ l, ∀ (CA : Option Addr) (cc : Nat) (CB : Option Addr) (cd : Nat), Spec Try.prog g (Value.agg #[.int .u32 c.h.p, .slice CA c.h.a.length cc, .slice CB c.b.length cd] :: caps.toList).toArray [sl tTm CA cc c.h.a, sl tLi CB cd c.b, PK] [pt b6 33 [.pointer (some ⟨ba, 0, none⟩)], relO ba F] (fun v Ps' Os' => ∃ A k, v = .slice A (hd c).length k ∧ Ps' = [] ∧ Os' = [pt b6 33 [.pointer (some ⟨ba, 0, none⟩)], relO ba F, dl tFa 41 A k (hd c)])) (hr : rises F) (hm : most ≤ 100000) (hF : (F.length : Int) ≤ most) (hda : ∀ c ∈ l, ∀ x ∈ hd c, x.a.length ≤ 100000) :
    Spec Try.prog 41 #[.agg #[.slice LA l.length lc, .pointer (some ⟨ba, 0, none⟩), .func (.func g) #[] caps], .int .i64 most] [sl tCl LA lc l, PK] [pt b6 33 [.pointer (some ⟨ba, 0, none⟩)], relO ba F] (fun v Ps' Os' => ∃ b R, v = .pointer (some ⟨b, 0, none⟩) ∧ rises R ∧ R.length ≤ 100001 ∧ ((most < ((F.length + R.length : Nat) : Int) ∧ most < ((F.length + (nws F (l.flatMap hd)).length : Nat) : Int)) ∨ (R = nws F (l.flatMap hd) ∧ ((F.length + R.length : Nat) : Int) ≤ most)) ∧ Ps' = [] ∧ Os' = [pt b6 33 [.pointer (some ⟨ba, 0, none⟩)], relO ba F, relO b R]) := by
 refine spec_of (fn := Try.f41) (args := [.agg #[.slice LA l.length lc, .pointer (some ⟨ba, 0, none⟩), .func (.func g) #[] caps], .int .i64 most]) 47 Try.func41 rfl (by kernel_rfl) Try.ntmps41 (Nat.le_of_ble_eq_true rfl) (fun w0 hp0 hf0 => ?_)
 refine go_seq ?_
 refine go_region rfl ?_
 refine go_box Tk rfl rfl rfl rfl (by rfl) rfl rfl (fun h => nomatch h) ?_
 intro bR
 refine go_pure0 Tk rfl rfl rfl ?_
 refine go_nil ?_
 refine go_freeze_pt (b := bR) (by repeat constructor) ?_
 refine go_env [(1, _), (2, _)] ⟨rfl, rfl, trivial⟩ ?_
 refine go_seq ?_
 refine go_region rfl ?_
 refine go_call (relNew) rfl rfl (by rfl) rfl (by repeat constructor) (by repeat constructor) (fun h => nomatch h) ?_
 rintro _ _ _ ⟨b, rfl, rfl, rfl⟩
 refine go_same (A := relO b []) (B := relO b (nws F ((l.take (0)).flatMap hd))) (by repeat constructor) rfl ?_
 refine go_pure0 Tk rfl rfl rfl ?_
 refine go_nil ?_
 refine go_env [(1, _), (2, _), (5, _)] ⟨rfl, rfl, rfl, trivial⟩ ?_
 iterate 2 refine go_seq ?_
 refine go_len (xs := l) (by repeat constructor) (fun l0 m0 => ?_)
 iterate 5 first | refine go_region rfl ?_ | refine go_pure0 Tk rfl rfl rfl ?_ | refine go_val0 rfl (ldv Tk rfl rfl rfl) rfl ?_
 refine go_nil ?_
 refine go_env [(1, _), (2, _), (5, _), (12, _), (13, _), (14, _)] ⟨rfl, rfl, rfl, rfl, rfl, rfl, trivial⟩ ?_
 refine go_block ?_
 refine go_loop' (X := Nat) (fun k => [(14, .int .i64 (k : Int))]) [(1, _), (2, _), (5, _), (12, _), (13, _)] (fun k => [pt b6 33 [.pointer (some ⟨ba, 0, none⟩)], relO ba F, relO b (nws F ((l.take (k)).flatMap hd))]) (fun k => k ≤ l.length ∧ ((F.length + (nws F ((l.take (k)).flatMap hd)).length : Nat) : Int) ≤ most) (fun k => l.length - k) (0) ⟨rfl, rfl, rfl, rfl, rfl, rfl, trivial⟩ (by repeat constructor) ⟨by omega, by show ((F.length + 0 : Nat) : Int) ≤ most; omega⟩ ?_
 intro k ⟨hk, hkm⟩
 refine go_seq ?_
 refine go_region rfl ?_
 refine go_pure0 Tk rfl rfl rfl ?_
 refine go_nil ?_
 refine go_env [(1, _), (2, _), (5, _), (12, _), (13, _), (14, _), (15, _)] ⟨rfl, rfl, rfl, rfl, rfl, rfl, rfl, trivial⟩ ?_
 refine go_seq ?_
 refine go_condD rfl ?_ ?_
 ·intro hq1
  iterate 4 first | refine go_skip ?_ | refine go_seq ?_ | refine go_block ?_
  refine go_elem_cl (xs := l) (by repeat constructor) (k) (List.getElem?_eq_getElem (by omega)) (fun b1 o1 A1 c1 B1 d1 hA => ?_); cases hA
  refine go_region rfl ?_
  refine go_val0 rfl (idx_val Tk rfl rfl rfl rfl rfl (by omega)) rfl ?_
  refine go_val0 rfl (ldv Tk rfl rfl rfl) rfl ?_
  refine go_alloc Tk rfl rfl rfl (by rfl) rfl rfl (fun h => nomatch h) ?_
  intro bT
  refine go_store Tk rfl rfl rfl rfl rfl rfl (by repeat constructor) rfl rfl (by rfl) (fun h => nomatch h) ?_
  refine go_nil ?_
  refine go_freeze_pt (b := bT) (by repeat constructor) ?_
  refine go_env [(1, _), (2, _), (5, _), (7, _), (12, _), (13, _), (14, _)] ⟨rfl, rfl, rfl, rfl, rfl, rfl, rfl, trivial⟩ ?_
  iterate 5 first | refine go_seq ?_ | refine go_region rfl ?_ | refine go_pure0 Tk rfl rfl rfl ?_ | refine go_val0 rfl (ldv Tk rfl rfl rfl) rfl ?_
  refine go_call (hask l[k] (List.getElem_mem _) A1 c1 B1 d1) rfl rfl (by rfl) rfl (by repeat constructor) (by repeat constructor) (fun h => nomatch h) ?_
  rintro _ _ _ ⟨A2, k2, rfl, rfl, rfl⟩
  refine go_freeze_dl (T := tFa) (A := A2) (xs := hd l[k]) (by repeat constructor) ?_
  refine go_len (xs := hd l[k]) (by repeat constructor) (fun l2 m2 => ?_)
  refine go_same (A := relO b (nws F ((l.take (k)).flatMap hd))) (B := relO b (nws F ((l.take k).flatMap hd ++ (hd l[k]).take 0))) (by repeat constructor) (by rw [List.take_zero, List.append_nil]) ?_
  iterate 2 refine go_pure0 Tk rfl rfl rfl ?_
  refine go_nil ?_
  refine go_env [(1, _), (2, _), (5, _), (12, _), (13, _), (14, _), (21, _), (22, _), (23, _)] ⟨rfl, rfl, rfl, rfl, rfl, rfl, rfl, rfl, rfl, trivial⟩ ?_
  refine go_block ?_
  refine go_loop' (X := Nat) (fun j => [(23, .int .i64 (j : Int))]) [(1, _), (2, _), (5, _), (12, _), (13, _), (14, _), (21, _), (22, _)] (fun j => [pt b6 33 [.pointer (some ⟨ba, 0, none⟩)], relO ba F, relO b (nws F ((l.take k).flatMap hd ++ (hd l[k]).take j))]) (fun j => j ≤ (hd l[k]).length ∧ ((F.length + (nws F ((l.take k).flatMap hd ++ (hd l[k]).take j)).length : Nat) : Int) ≤ most) (fun j => (hd l[k]).length - j) (0) ⟨rfl, rfl, rfl, rfl, rfl, rfl, rfl, rfl, rfl, trivial⟩ (by repeat constructor) ⟨by omega, by rw [List.take_zero, List.append_nil]; exact hkm⟩ ?_
  intro j ⟨hj, hjm⟩
  refine go_seq ?_
  refine go_region rfl ?_
  refine go_pure0 Tk rfl rfl rfl ?_
  refine go_nil ?_
  refine go_env [(1, _), (2, _), (5, _), (12, _), (13, _), (14, _), (21, _), (22, _), (23, _), (24, _)] ⟨rfl, rfl, rfl, rfl, rfl, rfl, rfl, rfl, rfl, rfl, trivial⟩ ?_
  refine go_seq ?_
  refine go_condD rfl ?_ ?_
  ·intro hq2
   iterate 4 first | refine go_skip ?_ | refine go_seq ?_ | refine go_block ?_
   refine go_elem_fa (xs := hd l[k]) (by repeat constructor) (j) (List.getElem?_eq_getElem (by omega)) (fun b3 o3 A3 c3 hA => ?_); cases hA
   have hxs : ((l.take k).flatMap hd ++ (hd l[k]).take (j + 1)) = ((l.take k).flatMap hd ++ (hd l[k]).take j) ++ [(hd l[k])[j]] := by rw [List.take_succ_eq_append_getElem (show j < (hd l[k]).length by omega), ← List.append_assoc]
   have hsn := nws_snoc F ((l.take k).flatMap hd ++ (hd l[k]).take j) (hd l[k])[j]
   rw [← hxs] at hsn
   refine go_region rfl ?_
   refine go_val0 rfl (idx_val Tk rfl rfl rfl rfl rfl (by omega)) rfl ?_
   refine go_val0 rfl (ldv Tk rfl rfl rfl) rfl ?_
   refine go_alloc Tk rfl rfl rfl (by rfl) rfl rfl (fun h => nomatch h) ?_
   intro bV
   refine go_store Tk rfl rfl rfl rfl rfl rfl (by repeat constructor) rfl rfl (by rfl) (fun h => nomatch h) ?_
   refine go_nil ?_
   refine go_freeze_pt (b := bV) (by repeat constructor) ?_
   refine go_env [(1, _), (2, _), (5, _), (9, _), (12, _), (13, _), (14, _), (21, _), (22, _), (23, _)] ⟨rfl, rfl, rfl, rfl, rfl, rfl, rfl, rfl, rfl, rfl, trivial⟩ ?_
   iterate 6 first | refine go_seq ?_ | refine go_region rfl ?_ | refine go_pure0 Tk rfl rfl rfl ?_ | refine go_val0 rfl (ldv Tk rfl rfl rfl) rfl ?_
   refine go_call (relHas ba F (hd l[k])[j] A3 c3 hr (by omega)) rfl rfl (by rfl) rfl (by repeat constructor) (by repeat constructor) (fun h => nomatch h) ?_
   rintro _ _ _ ⟨rfl, rfl, rfl⟩
   refine go_pure0 Tk rfl rfl rfl ?_
   refine go_nil ?_
   refine go_env [(1, _), (2, _), (5, _), (9, _), (12, _), (13, _), (14, _), (21, _), (22, _), (23, _), (31, _)] ⟨rfl, rfl, rfl, rfl, rfl, rfl, rfl, rfl, rfl, rfl, rfl, trivial⟩ ?_
   refine go_cond rfl ?_ ?_
   ·intro g1
    (try simp only [decide_eq_true_eq, decide_eq_false_iff_not, Bool.not_eq_true', Bool.not_eq_false', Bool.not_eq_eq_eq_not, Bool.not_true, Bool.not_false, Int.not_lt, Int.not_le, beq_iff_eq, beq_eq_false_iff_ne, ne_eq] at g1)
    rw [if_neg g1] at hsn
    refine go_region rfl ?_
    refine go_pure0 Tk rfl rfl rfl ?_
    refine go_val0 rfl (ldv Tk rfl rfl rfl) rfl ?_
    refine go_call (relPut b (nws F ((l.take k).flatMap hd ++ (hd l[k]).take j)) (hd l[k])[j] A3 c3 (rises_nws _ _) (by omega) (hda l[k] (List.getElem_mem _) _ (List.getElem_mem _))) rfl rfl (by rfl) rfl (by repeat constructor) (by repeat constructor) (fun h => nomatch h) ?_
    rintro _ _ _ ⟨rfl, rfl, rfl⟩
    rw [← hsn]
    refine go_nil ?_
    refine go_env [(1, _), (2, _), (5, _), (12, _), (13, _), (14, _), (21, _), (22, _), (23, _)] ⟨rfl, rfl, rfl, rfl, rfl, rfl, rfl, rfl, rfl, trivial⟩ ?_
    refine go_seq ?_
    have hle : (nws F ((l.take k).flatMap hd ++ (hd l[k]).take (j + 1))).length ≤ (nws F ((l.take k).flatMap hd ++ (hd l[k]).take j)).length + 1 := by rw [hsn]; first | omega | exact fput_len _ _
    refine go_region rfl ?_
    refine go_pure0 Tk rfl rfl rfl ?_
    refine go_val0 rfl (ldv Tk rfl rfl rfl) rfl ?_
    refine go_call (relLen ba F) rfl rfl (by rfl) rfl (by repeat constructor) (by repeat constructor) (fun h => nomatch h) ?_
    rintro _ _ _ ⟨rfl, rfl, rfl⟩
    refine go_pure0 Tk rfl rfl rfl ?_
    refine go_call (relLen b (nws F ((l.take k).flatMap hd ++ (hd l[k]).take (j + 1)))) rfl rfl (by rfl) rfl (by repeat constructor) (by repeat constructor) (fun h => nomatch h) ?_
    rintro _ _ _ ⟨rfl, rfl, rfl⟩
    refine go_pure0 Tk rfl rfl rfl ?_
    refine go_i64 40 rfl (by omega) (by omega) ?_
    iterate 2 refine go_pure0 Tk rfl rfl rfl ?_
    refine go_nil ?_
    refine go_env [(1, _), (2, _), (5, _), (12, _), (13, _), (14, _), (21, _), (22, _), (23, _), (42, _)] ⟨rfl, rfl, rfl, rfl, rfl, rfl, rfl, rfl, rfl, rfl, trivial⟩ ?_
    refine go_condD rfl ?_ ?_
    ·intro g2
     iterate 4 first | refine go_seq ?_ | refine go_region rfl ?_ | refine go_pure0 Tk rfl rfl rfl ?_
     refine go_nil ?_
     refine go_env [(4, _)] ⟨rfl, trivial⟩ ?_
     refine go_ret ⟨rfl, rfl⟩ _ _ (res1 (by rfl) (.tmp rfl)) ⟨b, nws F ((l.take k).flatMap hd ++ (hd l[k]).take (j + 1)), rfl, rises_nws _ _, by omega, .inl ⟨by omega, by have := nws_sub (S := F) (X := ((l.take k).flatMap hd ++ (hd l[k]).take (j + 1))) (Y := l.flatMap hd) (fun x hx => pre_mem (by omega) hx); omega⟩, rfl, rfl⟩ (by repeat constructor) (by repeat constructor)
    ·intro g2
     refine go_skip ?_
     refine go_blk ?_
     iterate 3 first | refine go_region rfl ?_ | refine go_pure0 Tk rfl rfl rfl ?_
     refine go_nil ?_
     refine go_i64 23 rfl (by omega) (by omega) ?_
     refine go_back (j + 1) ⟨rfl, rfl, rfl, rfl, rfl, rfl, rfl, rfl, rfl, trivial⟩ (by repeat constructor) (by repeat constructor) ⟨by omega, by omega⟩ (by omega)
   ·intro g1
    (try simp only [decide_eq_true_eq, decide_eq_false_iff_not, Bool.not_eq_true', Bool.not_eq_false', Bool.not_eq_eq_eq_not, Bool.not_true, Bool.not_false, Int.not_lt, Int.not_le, beq_iff_eq, beq_eq_false_iff_ne, ne_eq] at g1)
    rw [if_pos g1] at hsn
    refine go_same (A := relO b (nws F ((l.take k).flatMap hd ++ (hd l[k]).take j))) (B := relO b (nws F ((l.take k).flatMap hd ++ (hd l[k]).take (j + 1)))) (by repeat constructor) (by rw [hsn]) ?_
    refine go_skip ?_
    refine go_seq ?_
    have hle : (nws F ((l.take k).flatMap hd ++ (hd l[k]).take (j + 1))).length ≤ (nws F ((l.take k).flatMap hd ++ (hd l[k]).take j)).length + 1 := by rw [hsn]; first | omega | exact fput_len _ _
    refine go_region rfl ?_
    refine go_pure0 Tk rfl rfl rfl ?_
    refine go_val0 rfl (ldv Tk rfl rfl rfl) rfl ?_
    refine go_call (relLen ba F) rfl rfl (by rfl) rfl (by repeat constructor) (by repeat constructor) (fun h => nomatch h) ?_
    rintro _ _ _ ⟨rfl, rfl, rfl⟩
    refine go_pure0 Tk rfl rfl rfl ?_
    refine go_call (relLen b (nws F ((l.take k).flatMap hd ++ (hd l[k]).take (j + 1)))) rfl rfl (by rfl) rfl (by repeat constructor) (by repeat constructor) (fun h => nomatch h) ?_
    rintro _ _ _ ⟨rfl, rfl, rfl⟩
    refine go_pure0 Tk rfl rfl rfl ?_
    refine go_i64 40 rfl (by omega) (by omega) ?_
    iterate 2 refine go_pure0 Tk rfl rfl rfl ?_
    refine go_nil ?_
    refine go_env [(1, _), (2, _), (5, _), (12, _), (13, _), (14, _), (21, _), (22, _), (23, _), (42, _)] ⟨rfl, rfl, rfl, rfl, rfl, rfl, rfl, rfl, rfl, rfl, trivial⟩ ?_
    refine go_condD rfl ?_ ?_
    ·intro g2
     iterate 4 first | refine go_seq ?_ | refine go_region rfl ?_ | refine go_pure0 Tk rfl rfl rfl ?_
     refine go_nil ?_
     refine go_env [(4, _)] ⟨rfl, trivial⟩ ?_
     refine go_ret ⟨rfl, rfl⟩ _ _ (res1 (by rfl) (.tmp rfl)) ⟨b, nws F ((l.take k).flatMap hd ++ (hd l[k]).take (j + 1)), rfl, rises_nws _ _, by omega, .inl ⟨by omega, by have := nws_sub (S := F) (X := ((l.take k).flatMap hd ++ (hd l[k]).take (j + 1))) (Y := l.flatMap hd) (fun x hx => pre_mem (by omega) hx); omega⟩, rfl, rfl⟩ (by repeat constructor) (by repeat constructor)
    ·intro g2
     refine go_skip ?_
     refine go_blk ?_
     iterate 3 first | refine go_region rfl ?_ | refine go_pure0 Tk rfl rfl rfl ?_
     refine go_nil ?_
     refine go_i64 23 rfl (by omega) (by omega) ?_
     refine go_back (j + 1) ⟨rfl, rfl, rfl, rfl, rfl, rfl, rfl, rfl, rfl, trivial⟩ (by repeat constructor) (by repeat constructor) ⟨by omega, by omega⟩ (by omega)
  ·intro hq2
   refine go_exit rfl ?_
   refine go_blk ?_
   iterate 3 first | refine go_region rfl ?_ | refine go_pure0 Tk rfl rfl rfl ?_
   refine go_nil ?_
   refine go_same (A := relO b (nws F ((l.take k).flatMap hd ++ (hd l[k]).take j))) (B := relO b (nws F ((l.take (k + 1)).flatMap hd))) (by repeat constructor) (by rw [List.take_of_length_le (show (hd l[k]).length ≤ j by omega), ← flat_next (by omega)]) ?_
   refine go_i64 14 rfl (by omega) (by omega) ?_
   refine go_back (k + 1) ⟨rfl, rfl, rfl, rfl, rfl, rfl, trivial⟩ (by repeat constructor) (by repeat constructor) ⟨by omega, by rw [List.take_of_length_le (show (hd l[k]).length ≤ j by omega), ← flat_next (by omega)] at hjm; exact hjm⟩ (by omega)
 ·intro hq1
  iterate 5 first | refine go_exit rfl ?_ | refine go_seq ?_ | refine go_region rfl ?_ | refine go_pure0 Tk rfl rfl rfl ?_
  refine go_nil ?_
  refine go_env [(4, _)] ⟨rfl, trivial⟩ ?_
  refine go_ret ⟨rfl, rfl⟩ _ _ (res1 (by rfl) (.tmp rfl)) ⟨b, _, rfl, rises_nws _ _, by omega, .inr ⟨by rw [List.take_of_length_le (show l.length ≤ k by omega)], hkm⟩, rfl, rfl⟩ (by repeat constructor) (by repeat constructor)

end Go.Proofs.Ytkhddfknpegpmaa.SL

