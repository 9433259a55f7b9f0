/- Engine, data and contracts: parts of the proof, put together (S7 S8 S9 SA SB SC SD SE SF SG). -/
import Derived.Test.YtkhddfknpegpmaaGreatMA
import Derived.Laws.Tables
import Derived.Laws.StructEq
import Derived.Laws.BytesString
import Derived.WalkKit
import Derived.ProofKit
import Derived.OpenShut
import Derived.ShutString
import Derived.ChangeOld
import Derived.Below
import Derived.Carry
import Derived.SizedLaws
import Derived.Deep.Slices
import Derived.RangeFuncRecord
import Derived.Lib.Overlaps
import Derived.MapKept
/- Struct literals and their comparing, the lesser and the greater, bytes as a string; rows changed in place. -/
set_option linter.unusedVariables false
set_option linter.unusedSimpArgs false
namespace Go.Proofs.YtkhddfknpegpmaaGreat.SL

/-! ### struct literals -/
def bparts (tb : TB) (fs : List Field) (E : Env) : List Value → List (Nat × Operand) → Option (List Value)
  | z, [] => some z
  | z, (j, x) :: r => match atL fs j with
    | none => none
    | some fd => match lookT tb fd.type with
      | none => none
      | some i => match ev E x with
        | none => none
        | some v => match takeL i.size (cellsL v) with
          | none => none
          | some a => cond (Nat.beq (cellsL v).length i.size) (match putL fd.offset a z with
            | some z' => bparts tb fs E z' r
            | none => none) none
def sizes (tb : TB) : List Field → Option (List (Nat × Nat))
  | [] => some []
  | fd :: r => match lookT tb fd.type with
    | none => none
    | some i => match sizes tb r with
      | none => none
      | some l => some ((fd.offset, i.size) :: l)
section
variable {P : Program} {tb : TB} (ht : TOk P tb)
include ht in
theorem sizes_run : ∀ {fs : List Field} {l : List (Nat × Nat)}, sizes tb fs = some l → fs.mapM (fun f => (P.info? f.type).map fun i => (f.offset, i.size)) = some l ∧
    ∀ j fd i, atL fs j = some fd → lookT tb fd.type = some i → l[j]? = some (fd.offset, i.size)
  | [], l, h => by simp [sizes] at h; subst h; exact ⟨rfl, fun j fd i h => by cases h⟩
  | fd :: r, l, h => by
    simp only [sizes] at h
    split at h
    · cases h
    · rename_i i e
      split at h
      · cases h
      · rename_i l' e2
        cases h
        obtain ⟨h1, h2⟩ := sizes_run e2
        obtain ⟨x, q1, q2, q3, q4⟩ := (ht _ _ e).info
        refine ⟨by simp [List.mapM_cons, q1, h1, q3], fun j fd' i' hj hi => ?_⟩
        cases j with
        | zero => simp [atL] at hj; subst hj; rw [e] at hi; cases hi; rfl
        | succ j => simpa using h2 j fd' i' (by simpa [atL] using hj) hi
include ht in
theorem bparts_run {N : NN} {E : Env} {a : Act} (hf : Fits N E a) {fs : List Field} {pl : List (Nat × Nat)} (hpl : sizes tb fs = some pl) : ∀ (l : List (Nat × Operand)) (z cs : List Value) (cells : Array Value), bparts tb fs E z l = some cs → cells.toList = z →
    ∃ out, Instr.fill (pl.toArray[·]?) cells (l.map fun p => (p.1, a.eval p.2)) = some out ∧ out.toList = cs
  | [], z, cs, cells, h, hc => by simp [bparts] at h; subst h; exact ⟨cells, rfl, hc⟩
  | (j, x) :: l, z, cs, cells, h, hc => by
    simp only [bparts] at h
    split at h
    · cases h
    · rename_i fd e1
      split at h
      · cases h
      · rename_i i e2
        split at h
        · cases h
        · rename_i v e3
          split at h
          · cases h
          · rename_i a0 e4
            cases hq : Nat.beq (cellsL v).length i.size with
            | false => rw [hq] at h; cases h
            | true =>
              rw [hq] at h
              simp only [cond_true] at h
              have ha0 := takeL_all e4 hq
              subst ha0
              split at h
              · rename_i z' e5
                have hlen := Nat.eq_of_beq_eq_true hq
                obtain ⟨p1, p2⟩ := putL_eq e5
                have hsz : cells.size = z.length := by rw [← hc]; simp
                have hfc := fill_cells fd.offset v cells (by omega)
                obtain ⟨out, h1, h2⟩ := bparts_run hf hpl l z' cs (v.cells.zipIdx.foldl (fun cs p => cs.setIfInBounds (fd.offset + p.2) p.1) cells) h (by rw [p2, ← hc]; exact hfc)
                refine ⟨out, ?_, h2⟩
                have hpj := (sizes_run ht hpl).2 j fd i e1 e2
                have hvs : v.cells.size = (cellsL v).length := by rw [cellsL_eq]; simp
                simp only [List.map_cons, Instr.fill, hf.ev e3, List.getElem?_toArray, hpj]
                rw [if_neg (by simp [hvs, hlen]; omega)]
                simp only [List.getElem?_toArray] at h1
                exact h1
              · cases h
include ht in
theorem build_val {N : NN} {E : Env} {o : Oper} {t : TypeId} {parts : Array (Nat × Operand)} {fs : Array Field} {s1 : Nat} {a1 : Bool} {z1 : Value} {y1 : Nat} {cs : List Value} {pl : List (Nat × Nat)} (ho : o.op = .build t parts)
    (hi : lookT tb t = some ⟨.struct fs, s1, a1, z1, y1⟩) (hpl : sizes tb fs.toList = some pl) (hc : bparts tb fs.toList E (cellsL z1) parts.toList = some cs) (a : Act) (w : World) (hf : Fits N E a) :
    (execOp a.eval o).run P w = .ok (.value (.agg cs.toArray)) w := by
  obtain ⟨x, q1, q2, q3, q4⟩ := (ht _ _ hi).info
  have hu := (ht _ _ hi).u
  obtain ⟨out, h1, h2⟩ := bparts_run ht hf hpl parts.toList (cellsL z1) cs z1.cells hc (by rw [cellsL_eq])
  have hout : out = cs.toArray := by apply Array.ext'; simpa using h2
  subst hout
  have hb : P.built t (parts.map fun (i, x) => (i, a.eval x)).toList = some cs.toArray := by
    unfold Program.built
    simp only [q1, hu, q2, (sizes_run ht hpl).1, Array.toList_map]
    exact h1
  have := run_build w t (parts.map fun (i, x) => (i, a.eval x)) _ hb
  simp [execOp, ho, this]
end

/-! ### structs compared, the lesser, the greater, bytes as a string -/
section
variable {C : Ctx} {k : List It} {E : Env} {Ps : List PA} {Os : List OA}
variable {o : Oper} {ops : Array Oper} {S : World → Prop} {r : Pl} {f : Bool}
def fieldsEq (tb : TB) (xs ys : List Value) : List Field → Option Bool
  | [] => some true
  | fd :: r => match lookT tb fd.type with
    | some ⟨.int _, _, false, _, _⟩ => match atL xs fd.offset, atL ys fd.offset, fieldsEq tb xs ys r with
      | some (.int k a), some (.int k' b), some q => cond (sameK k k') (some (decide (a = b) && q)) none
      | _, _, _ => none
    | some ⟨.string, _, false, _, _⟩ => match atL xs fd.offset, atL ys fd.offset, fieldsEq tb xs ys r with
      | some (.string a), some (.string b), some q => some ((a.toList == b.toList) && q)
      | _, _, _ => none
    | some ⟨.bool, _, false, _, _⟩ => match atL xs fd.offset, atL ys fd.offset, fieldsEq tb xs ys r with
      | some (.bool a), some (.bool b), some q => some ((a == b) && q)
      | _, _, _ => none
    | _ => none
def plainNames : List Field → Bool
  | [] => true
  | fd :: r => fd.name != "_" && plainNames r
theorem run_part {P : Program} {tb : TB} (ht : TOk P tb) (w : World) {t : TypeId} {u : TypeDesc} {s1 : Nat} {z1 : Value} {y1 : Nat} (e : lookT tb t = some ⟨u, s1, false, z1, y1⟩) {xs : List Value} {j : Nat} {v : Value} (h : atL xs j = some v) :
    (part t xs.toArray j).run P w = .ok v w := by
  have ha := (ht _ _ e).agg
  rw [atL_eq] at h
  simp [part, ha, h]
theorem fieldsEq_run {P : Program} {tb : TB} (ht : TOk P tb) (w : World) (d : Nat) {xs ys : List Value} : ∀ {fs : List Field} {q : Bool}, plainNames fs = true → fieldsEq tb xs ys fs = some q → (Op.eqFields (d + 1) xs.toArray ys.toArray fs).run P w = .ok q w
  | [], q, _, h => by simp [fieldsEq] at h; subst h; rfl
  | fd :: r, q, hn, h => by
    simp only [plainNames, Bool.and_eq_true, bne_iff_ne, ne_eq] at hn
    unfold fieldsEq at h
    simp only [Op.eqFields, ne_eq, hn.1, not_false_iff, if_true]
    split at h
    · rename_i kk s1 z1 y1 e
      split at h
      · rename_i k1 a k2 b q2 e1 e2 e3
        cases hk : sameK k1 k2 with
        | false => rw [hk] at h; cases h
        | true =>
          rw [hk] at h
          cases h
          obtain rfl := sameK_eq hk
          have hu := run_und (ht _ _ e).u w
          have heq : (Op.equalIn (d + 1) fd.type (.int k1 a) (.int k1 b)).run P w = .ok (a == b) w := by
              simp [Op.equalIn, hu]
          simp only [Sem.run_bind, run_part ht w e e1, run_part ht w e e2, Result.andThen_ok, heq]
          by_cases hab : a = b
          · simp [hab, fieldsEq_run ht w d hn.2 e3]
          · simp [hab]
      · cases h
    · rename_i s1 z1 y1 e
      split at h
      · rename_i a b q2 e1 e2 e3
        cases h
        have hu := run_und (ht _ _ e).u w
        have heq : (Op.equalIn (d + 1) fd.type (.string a) (.string b)).run P w = .ok (a.toList == b.toList) w := by
          simp [Op.equalIn, hu, beq_toListBytes]
        simp only [Sem.run_bind, run_part ht w e e1, run_part ht w e e2, Result.andThen_ok, heq]
        cases hab : (a.toList == b.toList) with
        | true => simp [fieldsEq_run ht w d hn.2 e3]
        | false => simp
      · cases h
    · rename_i s1 z1 y1 e
      split at h
      · rename_i a b q2 e1 e2 e3
        cases h
        have hu := run_und (ht _ _ e).u w
        have heq : (Op.equalIn (d + 1) fd.type (.bool a) (.bool b)).run P w = .ok (a == b) w := by
          simp [Op.equalIn, hu]
        simp only [Sem.run_bind, run_part ht w e e1, run_part ht w e e2, Result.andThen_ok, heq]
        cases hab : (a == b) with
        | true => simp [fieldsEq_run ht w d hn.2 e3]
        | false => simp
      · cases h
    · cases h
/-- x == y of structs with plain parts. -/
theorem seq_val {tb : TB} (ht : TOk C.P tb) {t : TypeId} {x y : Operand} {t2 : TypeId} {xs ys : Array Value} {fs : Array Field} {s1 : Nat} {a1 : Bool} {z1 : Value} {y1 : Nat} {q : Bool} (ho : o.op = .binOp .eql t x y t2)
    (hx : ev E x = some (.agg xs)) (hy : ev E y = some (.agg ys)) (hi : lookT tb t = some ⟨.struct fs, s1, a1, z1, y1⟩) (hn : plainNames fs.toList = true) (hq : fieldsEq tb xs.toList ys.toList fs.toList = some q)
    (hg : C.P.eqGuardType C.P.depth t = false) (hs : C.P.stoodInHeld t = false) :
    ∀ a w hp ho, Fits C.N E a → Sat w hp ho Ps Os → (execOp a.eval o).run C.P w = .ok (.value (.bool q)) w := fun a w hp ho' hf hs' => by
  have hu := (ht _ _ hi).u
  have hfs : C.P.fieldsOf t = fs := by simp [Program.fieldsOf, hu]
  have h1 := run_eqGuard_agg (P := C.P) w .eql t x y xs ys hg
  have h2 := run_equalIn_agg (P := C.P) w 9999 t xs ys (by rw [hfs]; exact hu) hs
  rw [hfs] at h2
  have h3 := fieldsEq_run ht w 9998 hn hq
  simp only [Array.toArray_toList] at h3
  have h4 := run_eql_struct (P := C.P) w t xs ys
  rw [show Op.equalIn 10000 = Op.equalIn (9999 + 1) from rfl, h2, show Op.eqFields 9999 = Op.eqFields (9998 + 1) from rfl, h3] at h4
  simp only [execOp, ho, hf.ev hx, hf.ev hy, Sem.run_bind, h1, h4, Result.andThen_ok, Sem.run_pure]
theorem min_val {x y : Operand} {tys : Array TypeId} {k1 k2 : IntKind} {n m : Int} (ho : o.op = .call ⟨.builtin .min, #[x, y], tys⟩) (hx : ev E x = some (.int k1 n)) (hy : ev E y = some (.int k2 m)) :
    ∀ a w hp ho, Fits C.N E a → Sat w hp ho Ps Os → (execOp a.eval o).run C.P w = .ok (.value (.int k1 (if m < n then m else n))) w := fun a w hp ho' hf hs' => by
  simp [execOp, ho, resolve, invoke, builtin, hf.ev hx, hf.ev hy, Builtin.min_, Builtin.min2]
theorem max_val {x y : Operand} {tys : Array TypeId} {k1 k2 : IntKind} {n m : Int} (ho : o.op = .call ⟨.builtin .max, #[x, y], tys⟩) (hx : ev E x = some (.int k1 n)) (hy : ev E y = some (.int k2 m)) :
    ∀ a w hp ho, Fits C.N E a → Sat w hp ho Ps Os → (execOp a.eval o).run C.P w = .ok (.value (.int k1 (if n < m then m else n))) w := fun a w hp ho' hf hs' => by
  simp [execOp, ho, resolve, invoke, builtin, hf.ev hx, hf.ev hy, Builtin.max_, Builtin.max2]
def bytesOf (ns : List Int) : ByteArray := ns.foldl (fun r n => r.push (UInt8.ofNat n.toNat)) ByteArray.empty
/-- string(b) of bytes that are one's own. -/
theorem str_val {tb : TB} (ht : TOk C.P tb) {t t2 e : TypeId} {x : Operand} {A : Option Addr} {c : Nat} {ns : List Int} {s1 : Nat} {a1 : Bool} {z1 : Value} {y1 : Nat} {s2 : Nat} {a2 : Bool} {z2 : Value} {y2 : Nat} {s3 : Nat} {a3 : Bool} {z3 : Value} {y3 : Nat} {rr : List OA}
    (ho : o.op = .convert t t2 x) (hx : ev E x = some (.slice A ns.length c)) (hi : lookT tb t = some ⟨.slice e, s1, a1, z1, y1⟩) (hj : lookT tb t2 = some ⟨.string, s2, a2, z2, y2⟩) (he : lookT tb e = some ⟨.int .u8, s3, a3, z3, y3⟩)
    (hr : Rem (ol (tInt .u8) e A c ns) Os rr) :
    ∀ a w hp ho, Fits C.N E a → Sat w hp ho Ps Os → (execOp a.eval o).run C.P w = .ok (.value (.string (bytesOf ns))) w := fun a w hp ho' hf hs' => by
  have h1 := run_convert_bytes_string (P := C.P) w t t2 e A ns.length c (ht _ _ hi).u (ht _ _ he).u (ht _ _ hj).u
  have h2 : (Conv.bytesToString (.slice A ns.length c)).run C.P w = .ok (.string (bytesOf ns)) w := by
    obtain ⟨g1, la, cs, lrow, lreps⟩ := hr.sep hs'.os
    obtain ⟨q1, q2, q3, q4⟩ := lrow
    cases A with
    | none =>
      rcases q4 with ⟨q5, _⟩ | ⟨g, cur, e1, _⟩
      · have : ns = [] := List.eq_nil_of_length_eq_zero q5
        subst this
        simp [Conv.bytesToString, bytesOf]
      · cases e1
    | some ad =>
      have hcs : ∀ (ns : List Int) (cs : List Value), Reps (tInt .u8) hp ns cs → cs = ns.map (Value.int .u8) := by
        intro ns
        induction ns with
        | nil => exact fun cs h => h
        | cons n ns ih =>
          rintro cs ⟨a, b, e, h1, h2⟩
          cases h1
          rw [e, ih b h2]; rfl
      refine run_bytesToString w ad ns.length c ns ?_
      rcases q4 with ⟨q5, _⟩ | ⟨g, cur, e1, hg, hcur, htake⟩
      · have : ns = [] := List.eq_nil_of_length_eq_zero q5
        subst this
        simp [loadCells, loadCellsFrom]
      · cases e1
        have := loadCells_run (P := C.P) (w := w) (b := g) ns.length 0 0 (ns.map (Value.int .u8)) #[] (by simp) (fun j v hj => by
          rw [show 0 + (0 + j) = j from by omega]
          refine cellH_world (cellH_le (la.tr hs'.ino) ?_)
          rw [← hcs ns cs lreps, ← htake, List.getElem?_take] at hj
          split at hj
          · simp only [cellH, hg]
            rw [← Array.getElem?_toList]; exact hj
          · cases hj)
        simpa [loadCells] using this
  rw [← h1] at h2
  simp [execOp, ho, hf.ev hx, h2]

/-! ### rows of one's own, opened -/
def rps {α : Type} (T : Ty α) (xs : List α) (cs : List Value) : PA := ⟨fun h => Reps T h xs cs, fun hl h => h.up hl⟩
theorem Sat.addp {w : World} {hp ho : Heap} {q : PA} (hs : Sat w hp ho Ps Os) (h : q.p hp) : Sat w hp ho (q :: Ps) Os := ⟨hs.inp, hs.ino, hs.dj, forall_cons h hs.ps, hs.os⟩
/-- An owned list with room: its block, its cells. -/
theorem go_ol_open {α : Type} {T : Ty α} {e : Nat} {A : Option Addr} {c : Nat} {xs : List α} {rr : List OA} (h : Rem (ol T e A c xs) Os rr) (hpos : 0 < xs.length)
    (g : ∀ b cs cur, A = some ⟨b, 0, none⟩ → cur.length = c * T.size → cur.take (xs.length * T.size) = cs → xs.length ≤ c → c ≤ maxLen → cs.length = xs.length * T.size → Go C k E (rps T xs cs :: Ps) (pt b e cur :: rr)) : Go C k E Ps Os := fun a w hp ho hf hs hb => by
  obtain ⟨g1, g2, la, lb, ldj, ⟨cs, lrow, lreps⟩, lsep⟩ := Sep.rem h hs.os
  obtain ⟨q1, q2, q3, q4⟩ := lrow
  rcases q4 with ⟨q5, _⟩ | ⟨b, cur, e1, hg, hcur, htake⟩
  · omega
  · exact g b cs cur.toList e1 (by simpa using hcur) htake q2 q3 q1 a w hp ho hf ⟨hs.inp, hs.ino, hs.dj, forall_cons lreps hs.ps, g1, g2, la, lb, ldj, by show g1 b = _; rw [hg], lsep⟩ hb
theorem go_ol_close {α : Type} {T : Ty α} {e : Nat} {b c : Nat} (xs : List α) {cs cur : List Value} {rr : List OA} (h : Rem (pt b e cur) Os rr) (hq : rps T xs cs ∈ Ps) (h1 : cur.length = c * T.size) (h2 : cur.take (xs.length * T.size) = cs) (h3 : xs.length ≤ c) (h4 : c ≤ maxLen)
    (g : Go C k E Ps (ol T e (some ⟨b, 0, none⟩) c xs :: rr)) : Go C k E Ps Os := fun a w hp ho hf hs hb =>
  g a w hp ho hf ⟨hs.inp, hs.ino, hs.dj, hs.ps, hs.os.set h (Bs := [ol T e (some ⟨b, 0, none⟩) c xs]) fun g1 q => ⟨g1, Heap.nil, Heap.le_refl _, Heap.nil_le _, Heap.dj_symm (Heap.nil_dj _),
    ⟨cs, ⟨Reps.len (hs.ps _ hq), h3, h4, .inr ⟨b, cur.toArray, rfl, q, by simpa using h1, by simpa using h2⟩⟩, hs.ps _ hq⟩, trivial⟩⟩ hb
theorem go_rps {α : Type} {T : Ty α} {xs ys : List α} {cs : List Value} (ds : List Value) (hq : rps T xs cs ∈ Ps) (hi : ∀ h, Reps T h xs cs → Reps T h ys ds) (g : Go C k E (rps T ys ds :: Ps) Os) : Go C k E Ps Os := fun a w hp ho hf hs hb =>
  g a w hp ho hf (hs.addp (hi hp (hs.ps _ hq))) hb
/-- An element of an opened list. -/
theorem go_rps_at {α : Type} {T : Ty α} {xs : List α} {cs : List Value} (hq : rps T xs cs ∈ Ps) (j : Nat) {x : α} (hj : xs[j]? = some x)
    (g : ∀ ds, ds.length = T.size → (∀ i v, ds[i]? = some v → cs[j * T.size + i]? = some v) → Go C k E (rp T x ds :: Ps) Os) : Go C k E Ps Os := fun a w hp ho hf hs hb => by
  obtain ⟨ds, h1, h2⟩ := Reps.at (hs.ps _ hq) j x hj
  exact g ds (T.len h1) h2 a w hp ho hf (hs.addp h1) hb
theorem at_row {b e : Nat} {cs cur ds : List Value} {rr : List OA} {m p n : Nat} (k : Nat) {out : List Value} (h : Rem (pt b e cur) Os rr) (h2 : cur.take m = cs) (h3 : ∀ i v, ds[i]? = some v → cs[p + i]? = some v) (ho : takeL n (dropL k ds) = some out) : At Ps Os b (0 + p + k) n out :=
  ⟨(takeL_eq ho).2, fun w hp ho' hs j v hj => by
    obtain ⟨e1, e2⟩ := takeL_eq ho
    rw [dropL_eq] at e1
    obtain ⟨h1, l1, d⟩ := h.sep hs.os
    refine cellH_world (cellH_le (l1.tr hs.ino) ?_)
    change h1 b = _ at d
    simp only [cellH, d]
    rw [e1, List.getElem?_take] at hj
    split at hj
    · rw [List.getElem?_drop] at hj
      have := h3 _ _ hj
      rw [← h2, List.getElem?_take] at this
      split at this
      · simp only [List.getElem?_toArray]
        rw [Nat.zero_add, Nat.add_assoc]
        exact this
      · cases this
    · cases hj⟩

/-! ### changes in place -/
def putS (n : Nat) (vs l : List Value) : List Value := l.take n ++ (vs ++ l.drop (n + vs.length))
theorem putS_len {n : Nat} {vs l : List Value} (h : n + vs.length ≤ l.length) : (putS n vs l).length = l.length := by simp [putS]; omega
theorem putS_take {n : Nat} {vs l : List Value} (h : n + vs.length ≤ l.length) {m : Nat} (hm : m = n + vs.length) : (putS n vs l).take m = l.take n ++ vs := by
  subst hm
  unfold putS
  rw [← List.append_assoc, List.take_append_of_le_length (by simp; omega), List.take_of_length_le (by simp; omega)]
theorem putS_low {n : Nat} {vs l : List Value} (h : n + vs.length ≤ l.length) {m : Nat} (hm : m ≤ n) : (putS n vs l).take m = l.take m := by
  unfold putS
  rw [List.take_append_of_le_length (by simp; omega), List.take_take, Nat.min_eq_left hm]
/-- append within the room that there is, of what lies anywhere. -/
theorem go_append_in {tb : TB} (ht : TOk C.P tb) {s x : Operand} {t e : TypeId} {s1 : Nat} {a1 : Bool} {z1 : Value} {y1 : Nat} {i : TI} {b n c m c2 b2 o2 : Nat} {cur news : List Value} {rr : List OA}
    (ho : o.op = .call ⟨.builtin .append, #[s, x], #[t, t]⟩) (hw : wants ops E o = some true) (hs : ev E s = some (.slice (some ⟨b, 0, none⟩) n c)) (hx : ev E x = some (.slice (some ⟨b2, o2, none⟩) m c2)) (hi : lookT tb t = some ⟨.slice e, s1, a1, z1, y1⟩) (he : lookT tb e = some i)
    (hd : okDst C.N o.dst = true) (hr : Rem (pt b e cur) Os rr) (hnews : At Ps Os b2 o2 (m * i.size) news) (h1 : oneCells news = true) (hroom : n + m ≤ c) (hc : cur.length = c * i.size)
    (hS : f = true → ∀ w hp ho, Sat w hp ho Ps (pt b e (putS (n * i.size) news cur) :: rr) → S w)
    (g : Go C (.ops ops S r :: k) (setE o.dst (.slice (some ⟨b, 0, none⟩) (n + m) c) E) Ps (pt b e (putS (n * i.size) news cur) :: rr)) : Go C (.ops ops S (.one 0 f o r) :: k) E Ps Os :=
  go_eff (α := Unit) (fun _ => .slice (some ⟨b, 0, none⟩) (n + m) c) (fun _ => Ps) (fun _ => pt b e (putS (n * i.size) news cur) :: rr) hw hd (fun a w hp ho' hf hs' hb => by
    obtain ⟨x', hinfo, hx1, hx2, hx3⟩ := (ht _ _ he).info
    have hu := (ht _ _ hi).u
    obtain ⟨h1', _, a1, _, _, d1, _⟩ := Sep.rem hr hs'.os
    change h1' b = _ at d1
    have hbw : w.heap[b]? = _ := hs'.ino _ _ (a1 _ _ d1)
    have hl : news.length = m * i.size := hnews.1
    have hfit : n * i.size + news.length ≤ cur.length := by rw [hl, hc, ← Nat.add_mul]; exact Nat.mul_le_mul_right _ hroom
    have hrun := run_append_room (P := C.P) w t o.type e x' hu hinfo b n c cur.toArray hbw ⟨b2, o2, none⟩ m c2 news (by rw [hl, hx2]) (fun j v hj => by rw [run_addOff]; exact hnews.2 w hp ho' hs' j v hj) (oneCells_mem h1) hroom (by rw [hx2]; simpa using hfit)
    rw [hx2] at hrun
    obtain ⟨ho2, h2, h3⟩ := sat_store (C := C) (cs' := putS (n * i.size) news cur) hr hs' hb
    refine ⟨(), _, hp, ho2, ?_, h2, h3⟩
    have key : w.setRow b (cur.toArray.toList.take (n * i.size) ++ news ++ cur.toArray.toList.drop (n * i.size + news.length)).toArray = { w with heap := w.heap.setIfInBounds b (.cells (putS (n * i.size) news cur).toArray e (0, 0)) } := by
      have hlt : b < w.heap.size := (Array.getElem?_eq_some_iff.1 hbw).1
      have hgg : w.heap[b] = .cells cur.toArray e (0, 0) := (Array.getElem?_eq_some_iff.1 hbw).2
      unfold World.setRow
      congr 1
      apply Array.ext_getElem?
      intro j
      simp only [Array.getElem?_modify, Array.getElem?_setIfInBounds]
      by_cases ej : b = j
      · subst ej; simp [hlt, hgg, putS]
      · simp [ej]
    rw [key] at hrun
    simp [execOp, ho, resolve, invoke, builtin, hf.ev hs, hf.ev hx, hrun]) (fun e x => hS e) (fun _ => g)
theorem go_clear {tb : TB} (ht : TOk C.P tb) {s : Operand} {t e : TypeId} {s1 : Nat} {a1 : Bool} {z1 : Value} {y1 : Nat} {i : TI} {b oo n c : Nat} {cur : List Value} {rr : List OA}
    (ho : o.op = .call ⟨.builtin .clear, #[s], #[t]⟩) (hw : wants ops E o = some true) (hs : ev E s = some (.slice (some ⟨b, oo, none⟩) n c)) (hi : lookT tb t = some ⟨.slice e, s1, a1, z1, y1⟩) (he : lookT tb e = some i) (hz1 : oneCells (cellsL i.zero) = true) (hz : Nat.beq (cellsL i.zero).length i.size = true)
    (hd : okDst C.N o.dst = true) (hr : Rem (pt b e cur) Os rr) (hl : oo + n * i.size ≤ cur.length)
    (hS : f = true → ∀ zs w hp ho, Sat w hp ho Ps (pt b e (putS oo zs cur) :: rr) → S w)
    (g : ∀ zs, zs.length = n * i.size → Go C (.ops ops S r :: k) (setE o.dst (.tuple #[]) E) Ps (pt b e (putS oo zs cur) :: rr)) : Go C (.ops ops S (.one 0 f o r) :: k) E Ps Os := by
  have hzs : (Builtin.zeroCells i.zero.cells n).size = n * i.size := by rw [size_zeroCells, cellsL_eq]; simp [Nat.eq_of_beq_eq_true hz]
  refine go_eff (α := Unit) (fun _ => .tuple #[]) (fun _ => Ps) (fun _ => pt b e (putS oo (Builtin.zeroCells i.zero.cells n).toList cur) :: rr) hw hd (fun a w hp ho' hf hs' hb => ?_) (fun e x => hS e _) (fun _ => g _ (by simpa using hzs))
  have hu := (ht _ _ hi).u
  have hzr := (ht _ _ he).zero w
  obtain ⟨h1', _, a1, _, _, d1, _⟩ := Sep.rem hr hs'.os
  change h1' b = _ at d1
  have hbw : w.heap[b]? = _ := hs'.ino _ _ (a1 _ _ d1)
  have hone : oneCells (Builtin.zeroCells i.zero.cells n).toList = true := by
    have hm : ∀ u ∈ cellsL i.zero, u.oneCell' = true := oneCells_mem hz1
    have key : ∀ l : List Value, (∀ u ∈ l, u.oneCell' = true) → oneCells l = true := by
      intro l
      induction l with
      | nil => exact fun _ => rfl
      | cons v l ih =>
        intro h
        have h1 := h v (.head _)
        have h2 := ih fun u hu => h u (.tail _ hu)
        cases v <;> simp_all [oneCells, Value.oneCell']
    refine key _ fun u hu => ?_
    simp only [Builtin.zeroCells, Array.toList_map, List.mem_map, Array.mem_toList_iff, Array.mem_range] at hu
    obtain ⟨j, hj, rfl⟩ := hu
    have hpos : 0 < i.zero.cells.size := by
      rcases Nat.eq_zero_or_pos i.zero.cells.size with q | q
      · rw [q] at hj; omega
      · exact q
    have hlt := Nat.mod_lt j hpos
    refine hm _ ?_
    have hc : cellsL i.zero = i.zero.cells.toList := by rw [cellsL_eq]
    rw [getElem!_pos i.zero.cells _ hlt, hc]
    exact Array.getElem_mem_toList _
  obtain ⟨c', hrun, hc'⟩ := run_storeCells (P := C.P) (b := b) (ty := e) (o := oo) (Builtin.zeroCells i.zero.cells n).toList 0 cur.toArray w hbw (by simp [hzs]; omega) hone
  have : c' = (putS oo (Builtin.zeroCells i.zero.cells n).toList cur).toArray := by
    apply Array.ext'
    rw [hc']; simp [putS]
  subst this
  obtain ⟨ho2, h2, h3⟩ := sat_store (C := C) (cs' := putS oo (Builtin.zeroCells i.zero.cells n).toList cur) hr hs' hb
  refine ⟨(), _, hp, ho2, ?_, h2, h3⟩
  have hcl : (Builtin.clear_ #[t] o.type #[.slice (some ⟨b, oo, none⟩) n c]).run C.P w = .ok (.tuple #[]) { w with heap := w.heap.setIfInBounds b (.cells (putS oo (Builtin.zeroCells i.zero.cells n).toList cur).toArray e (0, 0)) } := by
    cases n with
    | zero =>
      have hz0 : (Builtin.zeroCells i.zero.cells 0).toList = [] := by apply List.eq_nil_of_length_eq_zero; simpa using hzs
      rw [hz0] at hrun ⊢
      simp only [storeCells, Sem.run_pure, Result.ok.injEq, true_and] at hrun
      rw [← hrun]
      simp [Builtin.clear_, run_und hu w]
    | succ n =>
      simp only [Builtin.clear_]
      simp only [Sem.run_bind, run_und hu w, Result.andThen_ok, hzr, hrun, Sem.run_pure, List.getElem?_toArray, List.getElem?_cons_zero]
  simp [execOp, ho, resolve, invoke, builtin, hf.ev hs, hcl]
end
/-- Where a part of a slice begins. -/
theorem sub0 (A : Option Addr) (m size : Nat) : (if m = 0 then A else A.map (·.add (0 * size))) = A := by
  split
  · rfl
  · cases A <;> simp [Addr.add]
theorem subN {b o l m size : Nat} (h : m ≠ l) : (if m = l then (some ⟨b, o, none⟩ : Option Addr) else (some (⟨b, o, none⟩ : Addr)).map (·.add (l * size))) = some ⟨b, o + l * size, none⟩ := by
  rw [if_neg h]; simp [run_addOff]
section
variable {C : Ctx} {k : List It} {E : Env} {Ps : List PA} {Os : List OA}
variable {o : Oper} {ops : Array Oper} {S : World → Prop} {r : Pl} {f : Bool}
theorem go_len_ol {α : Type} {T : Ty α} {e : Nat} {A : Option Addr} {c : Nat} {xs : List α} {rr : List OA} (h : Rem (ol T e A c xs) Os rr) (g : xs.length ≤ c → c ≤ 9223372036854775807 → Go C k E Ps Os) : Go C k E Ps Os :=
  go_ofact (φ := xs.length ≤ c ∧ c ≤ maxLen) _ h (fun _ _ ⟨_, q, _⟩ => ⟨q.2.1, q.2.2.1⟩) fun e => g e.1 (by have := e.2; simp only [maxLen] at this; omega)
theorem go_freeze_pt {b ty : Nat} {cs : List Value} {rr : List OA} (h : Rem (pt b ty cs) Os rr) (g : Go C k E (cl b 0 cs :: Ps) rr) : Go C k E Ps Os :=
  go_freeze _ (cl b 0 cs) h (fun hp h1 H _ hl q j v hj => by
    have q' : h1 b = some (.cells cs.toArray ty (0, 0)) := q
    refine cellH_le hl ?_
    simp only [cellH, q', Nat.zero_add]
    simpa using hj) g
/-- Several owned things said as one. -/
theorem go_fold (As : List OA) (B : OA) {rr : List OA} (h : Takes Os As rr) (hi : ∀ hp h, Sep hp As h → B.p hp h) (g : Go C k E Ps (B :: rr)) : Go C k E Ps Os := fun a w hp ho hf hs hb => by
  obtain ⟨h1, h2, a1, b1, c1, d, e⟩ := Sep.takes h hs.os
  exact g a w hp ho hf ⟨hs.inp, hs.ino, hs.dj, hs.ps, h1, h2, a1, b1, c1, hi _ _ d, e⟩ hb
theorem sep_one {A : OA} {hp h : Heap} (q : A.p hp h) : Sep hp [A] h := ⟨h, Heap.nil, Heap.le_refl _, Heap.nil_le _, Heap.dj_symm (Heap.nil_dj _), q, trivial⟩
/-- Ways that meet; what is named of the owned may have changed. -/
theorem go_cutO {X : Type} {c : Code} (chg : X → Env) (rest : Env) (O' : X → List OA) (On : List OA) (J : X → Prop) {rr : List OA} (hE : LookAll E rest) (hO : Takes Os On rr)
    (first : Go C (.code c :: .back (Bk C chg rest (fun _ => Ps) (fun x => O' x ++ rr) J (fun _ => 0) 1) :: k) E Ps Os)
    (then_ : ∀ x, J x → Go C k (chg x ++ rest) Ps (O' x ++ rr)) : Go C (.code c :: k) E Ps Os := go_cut chg rest _ _ J hE first then_
theorem slice_val' {tb : TB} (ht : TOk C.P tb) {t e : TypeId} {x : Operand} {lo hi mx : Option Operand} {A : Option Addr} {n c : Nat} {s1 : Nat} {a1 : Bool} {z1 : Value} {y1 : Nat} {i : TI} (ho : o.op = .slice t x lo hi mx)
    (hx : ev E x = some (.slice A n c)) (ht' : lookT tb t = some ⟨.slice e, s1, a1, z1, y1⟩) (he : lookT tb e = some i) (l h m : Nat) (v : Value)
    (hm : match mx with | none => m = c | some q => ∃ kk, ev E q = some (.int kk (m : Int))) (hh : match hi with | none => h = n ∧ mx = none | some q => ∃ kk, ev E q = some (.int kk (h : Int)))
    (hl : match lo with | none => l = 0 | some q => ∃ kk, ev E q = some (.int kk (l : Int))) (b1 : l ≤ h) (b2 : h ≤ m) (b3 : m ≤ c) (hv : Value.slice (if m = l then A else A.map (·.add (l * i.size))) (h - l) (m - l) = v) :
    ∀ a w hp ho, Fits C.N E a → Sat w hp ho Ps Os → (execOp a.eval o).run C.P w = .ok (.value v) w := by
  subst hv
  exact slice_val ht ho hx ht' he hm hh hl b1 b2 b3
theorem reads_at {tb : TB} (ht : TOk C.P tb) {t : TypeId} {i : TI} {b oo : Nat} {cs : List Value} {v : Value} (hi : lookT tb t = some i) (hA : At Ps Os b oo i.size cs) (hv : packV i.agg cs = some v) : Reads C Ps Os t ⟨b, oo, none⟩ v :=
  fun w hp ho' hs => loadVar_run ht hi hA.1 hv (hA.2 w hp ho' hs)
/-- Short words for what the walks say often: what they need is found by the tactics that stand here. -/
theorem ldv {tb : TB} (ht : TOk C.P tb) {t : TypeId} {x : Operand} {i : TI} {b oo : Nat} {cs : List Value} {v : Value} (ho : o.op = .load t x) (hx : ev E x = some (.pointer (some ⟨b, oo, none⟩)))
    (hi : lookT tb t = some i) (hA : At Ps Os b oo i.size cs := by first | exact at_pt (by repeat constructor) (by rfl) | exact at_cl 0 (by repeat constructor) (by rfl) | exact at_cl 1 (by repeat constructor) (by rfl) | exact at_cl 2 (by repeat constructor) (by rfl) | exact at_cl 3 (by repeat constructor) (by rfl) | exact at_cl 4 (by repeat constructor) (by rfl) | exact at_cl 5 (by repeat constructor) (by rfl) | exact at_cl 6 (by repeat constructor) (by rfl) | exact at_cl 7 (by repeat constructor) (by rfl)) (hv : packV i.agg cs = some v := by rfl) :
    ∀ a w hp ho, Fits C.N E a → Sat w hp ho Ps Os → (execOp a.eval o).run C.P w = .ok (.value v) w := load_val ht ho hx hi hA hv
theorem rdv {tb : TB} (ht : TOk C.P tb) {t : TypeId} {i : TI} {b oo : Nat} {cs : List Value} {v : Value} (hi : lookT tb t = some i) (hA : At Ps Os b oo i.size cs := by first | exact at_pt (by repeat constructor) (by rfl) | exact at_cl 0 (by repeat constructor) (by rfl) | exact at_cl 1 (by repeat constructor) (by rfl) | exact at_cl 2 (by repeat constructor) (by rfl) | exact at_cl 3 (by repeat constructor) (by rfl) | exact at_cl 4 (by repeat constructor) (by rfl) | exact at_cl 5 (by repeat constructor) (by rfl) | exact at_cl 6 (by repeat constructor) (by rfl) | exact at_cl 7 (by repeat constructor) (by rfl)) (hv : packV i.agg cs = some v := by rfl) : Reads C Ps Os t ⟨b, oo, none⟩ v := reads_at ht hi hA hv
theorem go_val2a {kPs : List PA} {kOs rr : List OA} {n : Nat} {v : Value} (hw : wants ops E o = some true) (h : ∀ a w hp ho, Fits C.N E a → Sat w hp ho kPs kOs → (execOp a.eval o).run C.P w = .ok (.value v) w) (hd : okDst C.N o.dst = true)
    (g : Go C (.ops ops (SatS kPs kOs) r :: k) (setE o.dst v E) Ps Os) (hkP : Subs Ps kPs := by repeat constructor) (hkO : Takes Os kOs rr := by repeat constructor) : Go C (.ops ops (SatS kPs kOs) (.one (n + 2) f o r) :: k) E Ps Os := go_val2 hw h hkP hkO hd g
theorem satA {kPs : List PA} {kOs rr : List OA} (hkP : Subs Ps kPs := by repeat constructor) (hkO : Takes Os kOs rr := by repeat constructor) (w : World) (hp ho : Heap) (hs : Sat w hp ho Ps Os) : SatS kPs kOs w := satS hkP hkO w hp ho hs
theorem at_any {b e oo n : Nat} {cur news : List Value} {rr : List OA} (h : Rem (pt b e cur) Os rr) (hl : news.length = n) (h3 : ∀ i v, news[i]? = some v → cur[oo + i]? = some v) : At Ps Os b oo n news :=
  ⟨hl, fun w hp ho' hs j v hj => by
    obtain ⟨h1, l1, d⟩ := h.sep hs.os
    refine cellH_world (cellH_le (l1.tr hs.ino) ?_)
    change h1 b = _ at d
    simp only [cellH, d]
    simpa using h3 _ _ hj⟩
end
theorem Spec.imp {P : Program} {f : FuncId} {args : Array Value} {Ps : List PA} {Os : List OA} {Q Q' : Value → List PA → List OA → Prop} (s : Spec P f args Ps Os Q) (h : ∀ v P O, Q v P O → Q' v P O) : Spec P f args Ps Os Q' :=
  ⟨s.fn, fun w hp ho hf a b c d => (s.calls w hp ho hf a b c d).mono fun e w' ⟨v, hp', ho', Ps', Os', e1, q, r⟩ => ⟨v, hp', ho', Ps', Os', e1, h _ _ _ q, r⟩⟩
/-! ### a part cut out -/
theorem oneCells_drop {cs : List Value} (n : Nat) (h : oneCells cs = true) : oneCells (cs.drop n) = true := oneCells_right (cs.take n) _ (by rw [List.take_append_drop]; exact h)
theorem Reps.cut {α : Type} {T : Ty α} {h : Heap} {xs : List α} {cs : List Value} (r : Reps T h xs cs) {i j : Nat} (hi : i ≤ xs.length) (hj : j ≤ xs.length) : Reps T h (xs.take i ++ xs.drop j) (cs.take (i * T.size) ++ cs.drop (j * T.size)) := by
  have h1 := (Reps.split (xs := xs.take i) (ys := xs.drop i) (by rw [List.take_append_drop]; exact r)).1
  have h2 := (Reps.split (xs := xs.take j) (ys := xs.drop j) (by rw [List.take_append_drop]; exact r)).2
  rw [List.length_take, Nat.min_eq_left hi] at h1
  rw [List.length_take, Nat.min_eq_left hj] at h2
  exact h1.app h2
theorem cut_take {n i j c s : Nat} {cs cur zs : List Value} (h1 : cur.length = c * s) (h2 : cur.take (n * s) = cs) (h3 : n ≤ c) (hi : i ≤ j) (hj : j ≤ n) (hz : zs.length = (n - (i + (n - j))) * s) (o : Nat) (ho : o = (i + (n - j)) * s) :
    (putS o zs (putS (i * s) (cs.drop (j * s)) cur)).take ((i + (n - j)) * s) = cs.take (i * s) ++ cs.drop (j * s) ∧ (putS o zs (putS (i * s) (cs.drop (j * s)) cur)).length = c * s ∧ o + (n - (i + (n - j))) * s ≤ (putS (i * s) (cs.drop (j * s)) cur).length := by
  subst ho
  have hcs : cs.length = n * s := by rw [← h2, List.length_take, h1, Nat.min_eq_left (Nat.mul_le_mul_right _ h3)]
  have hnews : (cs.drop (j * s)).length = (n - j) * s := by rw [List.length_drop, hcs, Nat.sub_mul]
  have e1 : i * s + (n - j) * s = (i + (n - j)) * s := by rw [Nat.add_mul]
  have l1 : i * s + (cs.drop (j * s)).length ≤ cur.length := by rw [hnews, e1, h1]; exact Nat.mul_le_mul_right _ (by omega)
  have l2 : (i + (n - j)) * s + zs.length ≤ (putS (i * s) (cs.drop (j * s)) cur).length := by
    rw [putS_len l1, hz, ← Nat.add_mul, h1]; exact Nat.mul_le_mul_right _ (by omega)
  refine ⟨?_, by rw [putS_len l2, putS_len l1, h1], by rw [← hz]; exact l2⟩
  rw [putS_low l2 (Nat.le_refl _), putS_take l1 (by rw [hnews, e1])]
  congr 1
  rw [← h2, List.take_take, Nat.min_eq_left (Nat.mul_le_mul_right _ (by omega))]
theorem cut_news {n j s : Nat} {cs cur : List Value} (h2 : cur.take (n * s) = cs) (o : Nat) (ho : j = n ∨ o = j * s) : ∀ i v, (cs.drop (j * s))[i]? = some v → cur[o + i]? = some v := by
  intro i v h
  rw [List.getElem?_drop, ← h2, List.getElem?_take] at h
  split at h
  · rename_i hlt
    rcases ho with rfl | rfl
    · omega
    · exact h
  · cases h
end Go.Proofs.YtkhddfknpegpmaaGreat.SL

/- The rows: what the arguments that a row lets in are, in the engine's words; the law's contract as the row. -/
set_option linter.unusedVariables false
set_option linter.unusedSimpArgs false
namespace Go.Proofs.YtkhddfknpegpmaaGreat.SL
open Go.RowKit Go.Deep
def Opens (P : Program) (t : TypeId) {α : Type} (T : Ty α) (G : α → Prop) : Prop :=
  ∀ {H : Type} {enc : TypeId × Value → H} {W : World} {base : Nat} {sp : Nat → Bool} {hd : Bool} {fuel : Nat} {cs : List Value} {x : DataW H × List MemPlace}, DataW.trod enc P W base sp hd fuel t cs = some x → ∃ v, T.rep (hpOf W) v cs ∧ G v
theorem wf_u32 {n : Int} (h : (Lit.int .u32 n).wf = true) : 0 ≤ n ∧ n < 4294967296 := by
  simp [Lit.wf, IntKind.min, IntKind.max, IntKind.signed, IntKind.bits] at h; omega
theorem wf_u8 {n : Int} (h : (Lit.int .u8 n).wf = true) : 0 ≤ n ∧ n < 256 := by
  simp [Lit.wf, IntKind.min, IntKind.max, IntKind.signed, IntKind.bits] at h; omega
theorem wf_i64 {n : Int} (h : (Lit.int .i64 n).wf = true) : -9223372036854775808 ≤ n ∧ n ≤ 9223372036854775807 := by
  simp [Lit.wf, IntKind.min, IntKind.max, IntKind.signed, IntKind.bits] at h; omega
section
variable {P : Program}
theorem opens_int {t : TypeId} {k : IntKind} (ht : P.underlying t = some (.int k)) : Opens P t (tInt k) (fun n => (Lit.int k n).wf = true) := fun h => by
  obtain ⟨n, rfl, _, hw⟩ := DataW.trod_int ht h
  exact ⟨n, rfl, hw⟩
theorem opens_bool {t : TypeId} (ht : P.underlying t = some .bool) : Opens P t tBool (fun _ => True) := fun h => by
  obtain ⟨n, rfl, _⟩ := DataW.trod_bool ht h
  exact ⟨n, rfl, trivial⟩
theorem opens_str {t : TypeId} (ht : P.underlying t = some .string) : Opens P t tStr (fun s => s.size ≤ maxLen) := fun h => by
  obtain ⟨n, rfl, _, hw⟩ := DataW.trod_string ht h
  exact ⟨n, rfl, hw⟩
theorem opens_iso {t : TypeId} {α β : Type} {T : Ty β} {G : β → Prop} {G' : α → Prop} (f : α → β) (g : β → α) (o : Opens P t T G) (hg : ∀ b, f (g b) = b) (hG : ∀ b, G b → G' (g b)) : Opens P t (tIso T f) G' := fun h => by
  obtain ⟨v, r, q⟩ := o h
  exact ⟨g v, by show T.rep _ (f (g v)) _; rw [hg]; exact r, hG v q⟩
theorem opens_pair {t : TypeId} {f0 f1 : Field} {α β : Type} {T : Ty α} {U : Ty β} {G : α → Prop} {K : β → Prop} (ht : P.underlying t = some (.struct #[f0, f1])) (o0 : Opens P f0.type T G) (o1 : Opens P f1.type U K)
    (h0 : f0.offset = 0) (h1 : f1.offset = T.size) (c0 : P.cellsOf f0.type = T.size) (c1 : P.cellsOf f1.type = U.size) (ct : P.cellsOf t = T.size + U.size) : Opens P t (tPair T U) (fun x => G x.1 ∧ K x.2) := fun h => by
  obtain ⟨xs, n, _, rfl, hl, hlen, hf⟩ := DataW.trod_struct ht h
  match xs, hlen with
  | [y0, y1], _ =>
    have e0 := hf 0 f0 rfl
    have e1 := hf 1 f1 rfl
    obtain ⟨v0, r0, g0⟩ := o0 (by simpa using e0)
    obtain ⟨v1, r1, g1⟩ := o1 (by simpa using e1)
    refine ⟨(v0, v1), ⟨_, _, ?_, r0, r1⟩, g0, g1⟩
    rw [h0, h1, c0, c1, List.drop_zero]
    rw [ct] at hl
    rw [List.take_of_length_le (l := List.drop _ _) (by simp; omega), List.take_append_drop]
theorem opens_triple {t : TypeId} {f0 f1 f2 : Field} {α β γ : Type} {T : Ty α} {U : Ty β} {V : Ty γ} {G : α → Prop} {K : β → Prop} {L : γ → Prop} (ht : P.underlying t = some (.struct #[f0, f1, f2])) (o0 : Opens P f0.type T G) (o1 : Opens P f1.type U K) (o2 : Opens P f2.type V L)
    (h0 : f0.offset = 0) (h1 : f1.offset = T.size) (h2 : f2.offset = T.size + U.size) (c0 : P.cellsOf f0.type = T.size) (c1 : P.cellsOf f1.type = U.size) (c2 : P.cellsOf f2.type = V.size) (ct : P.cellsOf t = T.size + (U.size + V.size)) :
    Opens P t (tPair T (tPair U V)) (fun x => G x.1 ∧ K x.2.1 ∧ L x.2.2) := fun h => by
  obtain ⟨xs, n, _, rfl, hl, hlen, hf⟩ := DataW.trod_struct ht h
  match xs, hlen with
  | [y0, y1, y2], _ =>
    obtain ⟨v0, r0, g0⟩ := o0 (by simpa using hf 0 f0 rfl)
    obtain ⟨v1, r1, g1⟩ := o1 (by simpa using hf 1 f1 rfl)
    obtain ⟨v2, r2, g2⟩ := o2 (by simpa using hf 2 f2 rfl)
    refine ⟨(v0, v1, v2), ⟨_, _, ?_, r0, _, _, rfl, r1, r2⟩, g0, g1, g2⟩
    rw [h0, h1, h2, c0, c1, c2, List.drop_zero]
    rw [ct] at hl
    rw [List.take_of_length_le (i := V.size) (by simp; omega), ← List.drop_drop, List.take_append_drop, List.take_append_drop]
theorem opens_four {t : TypeId} {f0 f1 f2 f3 : Field} {α β γ δ : Type} {T : Ty α} {U : Ty β} {V : Ty γ} {X : Ty δ} {G : α → Prop} {K : β → Prop} {L : γ → Prop} {M : δ → Prop} (ht : P.underlying t = some (.struct #[f0, f1, f2, f3])) (o0 : Opens P f0.type T G) (o1 : Opens P f1.type U K) (o2 : Opens P f2.type V L) (o3 : Opens P f3.type X M)
    (h0 : f0.offset = 0) (h1 : f1.offset = T.size) (h2 : f2.offset = T.size + U.size) (h3 : f3.offset = T.size + U.size + V.size) (c0 : P.cellsOf f0.type = T.size) (c1 : P.cellsOf f1.type = U.size) (c2 : P.cellsOf f2.type = V.size) (c3 : P.cellsOf f3.type = X.size) (ct : P.cellsOf t = T.size + (U.size + (V.size + X.size))) :
    Opens P t (tPair T (tPair U (tPair V X))) (fun x => G x.1 ∧ K x.2.1 ∧ L x.2.2.1 ∧ M x.2.2.2) := fun h => by
  obtain ⟨xs, n, _, rfl, hl, hlen, hf⟩ := DataW.trod_struct ht h
  match xs, hlen with
  | [y0, y1, y2, y3], _ =>
    obtain ⟨v0, r0, g0⟩ := o0 (by simpa using hf 0 f0 rfl)
    obtain ⟨v1, r1, g1⟩ := o1 (by simpa using hf 1 f1 rfl)
    obtain ⟨v2, r2, g2⟩ := o2 (by simpa using hf 2 f2 rfl)
    obtain ⟨v3, r3, g3⟩ := o3 (by simpa using hf 3 f3 rfl)
    refine ⟨(v0, v1, v2, v3), ⟨_, _, ?_, r0, _, _, rfl, r1, _, _, rfl, r2, r3⟩, g0, g1, g2, g3⟩
    rw [h0, h1, h2, h3, c0, c1, c2, c3, List.drop_zero]
    rw [ct] at hl
    rw [List.take_of_length_le (i := X.size) (by simp; omega), ← List.drop_drop (i := V.size), List.take_append_drop, ← List.drop_drop, List.take_append_drop, List.take_append_drop]
theorem opens_slice {t e : TypeId} {α : Type} {T : Ty α} {G : α → Prop} (ht : P.underlying t = some (.slice e)) (o : Opens P e T G) (hc : P.cellsOf e = T.size) (hp : 0 < T.size) : Opens P t (tSl T) (fun xs => ∀ x ∈ xs, G x) := fun {H enc W base sp hd fuel cs x} h => by
  rcases open_slice ht h with ⟨rfl, _⟩ | ⟨a, len, cap, m, n, D, Pl, rfl, hb, hl, hm, hmm, rfl, hx⟩
  · exact ⟨[], ⟨none, 0, rfl, by simp, by simp [maxLen], fun _ => rfl, fun j x hj => by simp at hj⟩, fun x hx => by cases hx⟩
  · have hlm : len ≤ m := by rw [hmm]; split <;> omega
    have el : ∀ i, i < len → ∃ v, (∃ cs, T.rep (hpOf W) v cs ∧ W.cells? base (a.add (i * T.size)) T.size = some cs) ∧ G v := fun i hi => by
      obtain ⟨cs', h1, h2⟩ := hx i (by omega)
      obtain ⟨v, r, g⟩ := o h2
      rw [hc] at h1
      exact ⟨v, ⟨cs', r, h1⟩, g⟩
    have ex : ∃ xs : List α, xs.length = len ∧ ∀ i x, xs[i]? = some x → (∃ cs, T.rep (hpOf W) x cs ∧ W.cells? base (a.add (i * T.size)) T.size = some cs) ∧ G x := by
      have key : ∀ k, k ≤ len → ∃ xs : List α, xs.length = k ∧ ∀ i x, xs[i]? = some x → (∃ cs, T.rep (hpOf W) x cs ∧ W.cells? base (a.add (i * T.size)) T.size = some cs) ∧ G x := by
        intro k
        induction k with
        | zero => exact fun _ => ⟨[], rfl, fun i x hx => by simp at hx⟩
        | succ k ih =>
          intro hk
          obtain ⟨xs, h1, h2⟩ := ih (by omega)
          obtain ⟨v, hv⟩ := el k (by omega)
          refine ⟨xs ++ [v], by simp [h1], fun i x hx => ?_⟩
          rw [List.getElem?_append] at hx
          split at hx
          · exact h2 i x hx
          · rename_i hlt
            have : i = k := by
              rcases Nat.eq_or_lt_of_le (show xs.length ≤ i by omega) with q | q
              · omega
              · rw [List.getElem?_eq_none (by simp; omega)] at hx; cases hx
            subst this
            simp [h1] at hx
            subst hx
            exact hv
      exact key len (Nat.le_refl _)
    obtain ⟨xs, h1, h2⟩ := ex
    refine ⟨xs, ⟨some a, cap, by rw [h1], by omega, hm, fun e => (by cases e), fun j x hj => ?_⟩, fun x hx => ?_⟩
    · obtain ⟨⟨cs, r, hcs⟩, _⟩ := h2 j x hj
      obtain ⟨_, hln, hget⟩ := World.cells?_some hcs
      have hspot : a.spot = none := by
        obtain ⟨v0, hv0⟩ : ∃ v, xs[0]? = some v := by
          cases xs with
          | nil => simp at hj
          | cons v l => exact ⟨v, rfl⟩
        obtain ⟨⟨cs0, _, hcs0⟩, _⟩ := h2 0 v0 hv0
        obtain ⟨_, hln0, hget0⟩ := World.cells?_some hcs0
        have := hget0 0 hp
        rw [List.getElem?_eq_getElem (by omega)] at this
        simp only [Nat.zero_mul, Addr.add, if_true, World.cell?] at this
        split at this
        · cases hs : a.spot with
          | none => rfl
          | some q => rw [hs] at this; simp at this
        · cases this
      obtain ⟨b, oo, sp0⟩ := a
      cases hspot
      refine ⟨b, oo, cs, rfl, r, fun i v hi => ?_⟩
      have hlt : i < T.size := by
        rw [← hln]
        rcases Nat.lt_or_ge i cs.length with q | q
        · exact q
        · simp [q] at hi
      have := hget i hlt
      rw [run_addOff, run_addOff, hi] at this
      unfold World.cell? at this
      unfold cellH hpOf
      rw [Nat.add_assoc] at this
      simp only at this ⊢
      split at this
      · rename_i e
        simp only [e]
        simpa using this
      · cases this
    · obtain ⟨j, hj, rfl⟩ := List.getElem_of_mem hx
      exact (h2 j _ (List.getElem?_eq_getElem hj)).2
/-- The contract of a law gives what the row asks. -/
theorem Spec.law {f : FuncId} {args : Array Value} {Ps : List PA} (s : Spec P f args Ps [] (fun v Ps' Os' => v = .bool true ∧ Ps' = [] ∧ Os' = [])) (W : World) (h : ∀ p, p ∈ Ps → p.p (hpOf W)) :
    Calls P f args W fun e W' => e = .returned (.bool true) ∧ Below W.heap.size W W' := by
  refine (s.calls W (hpOf W) Heap.nil Heap.nil ⟨Heap.le_refl _, Heap.nil_le _, Heap.dj_symm (Heap.nil_dj _), h, trivial⟩ (Heap.nil_le _) (Heap.nil_dj _) (Heap.nil_dj _)).mono ?_
  rintro e w' ⟨v, hp', ho', Ps', Os', rfl, ⟨rfl, _, _⟩, hs, hle, _, _, _, hr⟩
  refine ⟨rfl, hr.os, hr.tape, hr.output, hr.size, fun k hk => ?_⟩
  have h1 : hpOf W k = some W.heap[k] := by simp [hpOf, hk]
  have h2 := hs.inp _ _ (hle _ _ h1)
  unfold hpOf at h1 h2
  rw [h1, h2]
theorem okWide_agg {t : TypeId} {fs : Array Field} {w : World} {r : Reach} {b : Nat} {v : Value} (ht : P.underlying t = some (.struct fs)) (h : Value.okWide P w r b t v) : ∃ cs : Array Value, v = .agg cs := by
  simp only [Value.okWide, ht] at h
  obtain ⟨cs, e, _⟩ := h
  exact ⟨cs, e⟩
end
end Go.Proofs.YtkhddfknpegpmaaGreat.SL

/- More rules: what is lent to a call, elements of one's own rows, owned things with what they lead to. -/
set_option linter.unusedVariables false
set_option linter.unusedSimpArgs false
namespace Go.Proofs.YtkhddfknpegpmaaGreat.SL
/-- An owned thing and what it leads to, which is read. -/
def OA.pa (q : PA) (A : OA) : OA := ⟨fun hp ho => q.p hp ∧ A.p hp ho, fun hl h => ⟨q.up hl h.1, A.up hl h.2⟩⟩
def OA.free (A : OA) : Prop := ∀ hp hp' ho, A.p hp ho → A.p hp' ho
theorem free_pt {b ty : Nat} {cs : List Value} : (pt b ty cs).free := fun _ _ _ h => h
theorem Reps.flat {α : Type} {T : Ty α} (hT : T.flat) {h h' : Heap} : ∀ {xs : List α} {cs : List Value}, Reps T h xs cs → Reps T h' xs cs
  | [], _, e => e
  | _ :: _, _, ⟨a, b, e, r, s⟩ => ⟨a, b, e, hT _ _ _ _ r, Reps.flat hT s⟩
theorem free_ol {α : Type} {T : Ty α} (hT : T.flat) {e : Nat} {A : Option Addr} {c : Nat} {xs : List α} : (ol T e A c xs).free := fun _ _ _ ⟨cs, r, s⟩ => ⟨cs, r, s.flat hT⟩
theorem free_ex {α : Type} {f : α → OA} (h : ∀ x, (f x).free) : (OA.ex f).free := fun _ _ _ ⟨x, q⟩ => ⟨x, h x _ _ _ q⟩
theorem free_sep {Os : List OA} (h : ∀ A, A ∈ Os → A.free) {hp hp' : Heap} : ∀ {ho : Heap}, Sep hp Os ho → Sep hp' Os ho := by
  induction Os with
  | nil => exact fun _ => trivial
  | cons A Os ih => exact fun ⟨h1, h2, a, b, c, d, e⟩ => ⟨h1, h2, a, b, c, h A (.head _) _ _ _ d, ih (fun B hB => h B (.tail _ hB)) e⟩
theorem free_all {Os : List OA} (h : ∀ A, A ∈ Os → A.free) : (OA.all Os).free := fun _ _ _ q => free_sep h q
/-- What is owned may be lent to a call that reads it. -/
theorem Spec.lend {P : Program} {f : FuncId} {args : Array Value} {q : PA} {Ps : List PA} {Os : List OA} {Q : Value → List PA → List OA → Prop} (s : Spec P f args (q :: Ps) Os Q) (A : OA)
    (hA : ∀ (hp h1 H : Heap), hp.le H → h1.le H → A.p hp h1 → q.p H) (hQ : ∀ v P' O', Q v P' O' → P' = [] ∧ ∀ B, B ∈ O' → B.free) : Spec P f args Ps (A :: Os) (fun v Ps' Os' => ∃ O', Q v [] O' ∧ Ps' = [] ∧ Os' = A :: O') := by
  refine ⟨s.fn, fun w hp ho hf hs hfw d1 d2 => ?_⟩
  obtain ⟨h1, h2, a, b, c, dA, e⟩ := hs.os
  have dph1 : hp.dj h1 := Heap.dj_le hs.dj (Heap.le_refl _) a
  have dph2 : hp.dj h2 := Heap.dj_le hs.dj (Heap.le_refl _) b
  have djh : (hp.add h1).dj h2 := Heap.add_dj dph2 c
  have dfh1 : hf.dj h1 := Heap.dj_le d2 (Heap.le_refl _) a
  have dfa : hf.dj (hp.add h1) := Heap.dj_symm (Heap.add_dj (Heap.dj_symm d1) (Heap.dj_symm dfh1))
  have sat : Sat w (hp.add h1) h2 (q :: Ps) Os := ⟨Heap.add_le hs.inp (a.tr hs.ino), b.tr hs.ino, djh, forall_cons (hA hp h1 _ (Heap.le_add_left _ _) (Heap.le_add_right dph1) dA) (fun p hp' => p.up (Heap.le_add_left _ _) (hs.ps p hp')), Sep.up (Heap.le_add_left _ _) e⟩
  refine (s.calls w (hp.add h1) h2 hf sat hfw dfa (Heap.dj_le d2 (Heap.le_refl _) b)).mono ?_
  rintro x w' ⟨v, hp', ho', Ps', Os', rfl, hq, hs', hle, hfl, e1, e2, hr⟩
  obtain ⟨rfl, hfree⟩ := hQ _ _ _ hq
  have lp : hp.le hp' := (Heap.le_add_left _ _).tr hle
  have l1 : h1.le hp' := (Heap.le_add_right dph1).tr hle
  have d3 : h1.dj ho' := Heap.dj_le hs'.dj l1 (Heap.le_refl _)
  refine ⟨v, hp, h1.add ho', [], A :: Os', rfl, ⟨Os', hq, rfl, rfl⟩, ⟨lp.tr hs'.inp, Heap.add_le (l1.tr hs'.inp) hs'.ino, Heap.dj_symm (Heap.add_dj (Heap.dj_symm dph1) (Heap.dj_symm (Heap.dj_le hs'.dj lp (Heap.le_refl _)))), (fun p h => nomatch h),
    h1, ho', Heap.le_add_left _ _, Heap.le_add_right d3, d3, dA, free_sep hfree hs'.os⟩, Heap.le_refl _, hfl, d1, Heap.dj_symm (Heap.add_dj (Heap.dj_symm dfh1) (Heap.dj_symm e2)), hr⟩
theorem Spec.imp2 {P : Program} {f : FuncId} {args : Array Value} {Ps : List PA} {Os : List OA} {Q Q' : Value → List PA → List OA → Prop} (s : Spec P f args Ps Os Q) (h : ∀ v P O, Q v P O → ∃ O', (∀ hp h, Sep hp O h → Sep hp O' h) ∧ Q' v P O') : Spec P f args Ps Os Q' :=
  ⟨s.fn, fun w hp ho hf a b c d => (s.calls w hp ho hf a b c d).mono fun e w' ⟨v, hp', ho', Ps', Os', e1, q, r1, r2⟩ => by
    obtain ⟨O', q1, q2⟩ := h _ _ _ q
    exact ⟨v, hp', ho', Ps', O', e1, q2, ⟨r1.inp, r1.ino, r1.dj, r1.ps, q1 _ _ r1.os⟩, r2⟩⟩
theorem lend_ol {α : Type} {T : Ty α} {e : Nat} {A : Option Addr} {c : Nat} {xs : List α} : ∀ (hp h1 H : Heap), hp.le H → h1.le H → (ol T e A c xs).p hp h1 → (sl T A c xs).p H := fun hp h1 H l1 l2 ⟨cs, r, s⟩ => sl_of_row r l2 (s.up l1)
section
variable {C : Ctx} {k : List It} {E : Env} {Ps : List PA} {Os : List OA}
variable {o : Oper} {ops : Array Oper} {S : World → Prop} {r : Pl} {f : Bool}
theorem go_opa {q : PA} {A : OA} {rr : List OA} (h : Rem (OA.pa q A) Os rr) (g : Go C k E (q :: Ps) (A :: rr)) : Go C k E Ps Os := fun a w hp ho hf hs hb => by
  obtain ⟨h1, h2, i, b, c, ⟨d1, d2⟩, e⟩ := Sep.rem h hs.os
  exact g a w hp ho hf ⟨hs.inp, hs.ino, hs.dj, forall_cons d1 hs.ps, h1, h2, i, b, c, d2, e⟩ hb
/-- Several owned things, and what is read, said as one. -/
theorem go_foldp (Qs : List PA) (As : List OA) (B : OA) {rr : List OA} (hP : Subs Ps Qs) (h : Takes Os As rr) (hi : ∀ hp h, (∀ p, p ∈ Qs → p.p hp) → Sep hp As h → B.p hp h) (g : Go C k E Ps (B :: rr)) : Go C k E Ps Os := fun a w hp ho hf hs hb => by
  obtain ⟨h1, h2, a1, b1, c1, d, e⟩ := Sep.takes h hs.os
  exact g a w hp ho hf ⟨hs.inp, hs.ino, hs.dj, hs.ps, h1, h2, a1, b1, c1, hi _ _ (hs.ents hP.ents).ps d, e⟩ hb
/-- Another thing that is so of what is read. -/
theorem go_sl (q p : PA) (h : q ∈ Ps) (hi : ∀ h, q.p h → p.p h) (g : Go C k E (p :: Ps) Os) : Go C k E Ps Os := fun a w hp ho hf hs hb =>
  g a w hp ho hf (hs.addp (hi hp (hs.ps q h))) hb
theorem go_ol_addr {α : Type} {T : Ty α} {e : Nat} {A : Option Addr} {c : Nat} {xs : List α} {rr : List OA} (h : Rem (ol T e A c xs) Os rr) (hpos : 0 < xs.length) (g : ∀ b, A = some ⟨b, 0, none⟩ → Go C k E Ps Os) : Go C k E Ps Os :=
  go_ofact (φ := ∃ b, A = some ⟨b, 0, none⟩) _ h (fun _ _ ⟨_, q, _⟩ => by
    rcases q.2.2.2 with q | ⟨b, _, q, _⟩
    · omega
    · exact ⟨b, q⟩) fun ⟨b, q⟩ => g b q
theorem at_ol {α : Type} {T : Ty α} (fc : α → List Value) (hT : ∀ h x cs, T.rep h x cs → cs = fc x) (k : Nat) {e b c j n : Nat} {xs : List α} {x : α} {rr : List OA} {out : List Value} (h : Rem (ol T e (some ⟨b, 0, none⟩) c xs) Os rr) (hj : xs[j]? = some x) (ho : takeL n (dropL k (fc x)) = some out) :
    At Ps Os b (0 + j * T.size + k) n out := ⟨(takeL_eq ho).2, fun w hp ho' hs i v hi => by
    obtain ⟨h1, l1, cs, lrow, lreps⟩ := h.sep hs.os
    obtain ⟨ds, q1, q2⟩ := lreps.at j x hj
    have hds := hT _ _ _ q1
    subst hds
    obtain ⟨e1, e2⟩ := takeL_eq ho
    rw [dropL_eq] at e1
    have hlt : j < xs.length := by
      rcases Nat.lt_or_ge j xs.length with q | q
      · exact q
      · simp [q] at hj
    rcases lrow.2.2.2 with q | ⟨g, cur, q3, q4, q5, q6⟩
    · omega
    · cases q3
      refine cellH_world (cellH_le (l1.tr hs.ino) ?_)
      simp only [cellH, q4]
      rw [e1, List.getElem?_take] at hi
      split at hi
      · rw [List.getElem?_drop] at hi
        have := q2 _ _ hi
        rw [← q6, List.getElem?_take] at this
        split at this
        · rw [← Array.getElem?_toList, Nat.zero_add, Nat.add_assoc]
          exact this
        · cases this
      · cases hi⟩
def OA.when (φ : Prop) (A : OA) : OA := ⟨fun hp ho => φ → A.p hp ho, fun hl h p => A.up hl (h p)⟩
theorem go_when {φ : Prop} {A : OA} {rr : List OA} (h : Rem (OA.when φ A) Os rr) (p : φ) (g : Go C k E Ps (A :: rr)) : Go C k E Ps Os := go_imp _ [A] h (fun _ _ q => sep_one (q p)) g
theorem Reps.set {α : Type} {T : Ty α} {h : Heap} : ∀ {xs : List α} {cs : List Value} {j : Nat} {y : α} {vs : List Value}, Reps T h xs cs → j < xs.length → T.rep h y vs → Reps T h (xs.set j y) (putS (j * T.size) vs cs)
  | [], _, _, _, _, _, hj, _ => by simp at hj
  | x :: xs, _, 0, y, vs, ⟨a, b, e, r, s⟩, _, ry => by
    subst e
    refine ⟨vs, b, ?_, ry, s⟩
    simp only [putS, Nat.zero_mul, Nat.zero_add, List.take_zero, List.nil_append]
    rw [List.drop_append_of_le_length (by rw [T.len r, T.len ry]; omega), List.drop_of_length_le (by rw [T.len r, T.len ry]; omega), List.nil_append]
  | x :: xs, _, j + 1, y, vs, ⟨a, b, e, r, s⟩, hj, ry => by
    subst e
    refine ⟨a, putS (j * T.size) vs b, ?_, r, Reps.set s (by simpa using hj) ry⟩
    have ha := T.len r
    unfold putS
    rw [show (j + 1) * T.size = a.length + j * T.size from by rw [ha, Nat.add_mul]; omega, List.take_append, List.take_of_length_le (by omega), Nat.add_sub_cancel_left, List.append_assoc, List.drop_append, List.drop_of_length_le (by omega), List.nil_append]
    congr 4
    omega
theorem putS_take_comm {n m : Nat} {vs l : List Value} (h : n + vs.length ≤ m) (hl : n + vs.length ≤ l.length) : (putS n vs l).take m = putS n vs (l.take m) := by
  unfold putS
  rw [List.take_append, List.take_append, List.take_take, List.take_take, List.length_take, Nat.min_eq_left (show n ≤ l.length by omega), List.drop_take, Nat.min_eq_right (show n ≤ m by omega), Nat.min_eq_left (show n ≤ m by omega), List.take_of_length_le (l := vs) (by omega),
    show m - n - vs.length = m - (n + vs.length) from by omega]
theorem go_store_el {α : Type} {T : Ty α} {tb : TB} (ht : TOk C.P tb) {t : TypeId} {x y : Operand} {i : TI} {e b j c : Nat} {v : Value} {xs : List α} (z : α) {vs : List Value} {rr : List OA} (ho : o.op = .store t x y) (hw : wants ops E o = some true)
    (hx : ev E x = some (.pointer (some ⟨b, 0 + j * T.size, none⟩))) (hy : ev E y = some v) (hi : lookT tb t = some i) (hd : okDst C.N o.dst = true) (hr : Rem (ol T e (some ⟨b, 0, none⟩) c xs) Os rr) (hj : j < xs.length)
    (hv : takeL i.size (cellsL v) = some vs) (hl : Nat.beq (cellsL v).length i.size = true) (hm : Ent Ps (rp T z vs))
    (hS : f = true → ∀ w hp ho, Sat w hp ho Ps (ol T e (some ⟨b, 0, none⟩) c (xs.set j z) :: rr) → S w)
    (g : Go C (.ops ops S r :: k) (setE o.dst undef E) Ps (ol T e (some ⟨b, 0, none⟩) c (xs.set j z) :: rr)) : Go C (.ops ops S (.one 0 f o r) :: k) E Ps Os :=
  go_effU Ps (ol T e (some ⟨b, 0, none⟩) c (xs.set j z) :: rr) hw hd (fun a w hp ho' hf hs hb => by
    obtain ⟨g1, g2, la, lb, ldj, ⟨cs, lrow, lreps⟩, lsep⟩ := Sep.rem hr hs.os
    obtain ⟨q1, q2, q3, q4⟩ := lrow
    rcases q4 with q | ⟨g, cur, q4, q5, q6, q7⟩
    · omega
    · cases q4
      have hrz : T.rep hp z vs := hm hp hs.ps
      have hbw : w.heap[b]? = _ := hs.ino _ _ (la _ _ q5)
      have hvs := takeL_all hv hl
      subst hvs
      have hln := T.len hrz
      have hle := Nat.eq_of_beq_eq_true hl
      have hone := T.one hrz
      have hjs : j * T.size + T.size ≤ xs.length * T.size := by
        have := Nat.mul_le_mul_right T.size (show j + 1 ≤ xs.length from hj)
        rwa [Nat.add_mul, Nat.one_mul] at this
      have hxc := Nat.mul_le_mul_right T.size q2
      obtain ⟨c', hrun, hc'⟩ := run_storeCells (P := C.P) (b := b) (ty := e) (o := 0 + j * T.size) (cellsL v) 0 cur w hbw (by rw [hln, q6]; omega) hone
      rw [Nat.zero_add] at hrun
      have hc2 : c' = (putS (j * T.size) (cellsL v) cur.toList).toArray := by
        apply Array.ext'
        rw [hc']; simp [putS]
      subst hc2
      have hs2 : Sat w hp ho' Ps (pt b e cur.toList :: rr) := ⟨hs.inp, hs.ino, hs.dj, hs.ps, g1, g2, la, lb, ldj, by show g1 b = _; rw [q5], lsep⟩
      obtain ⟨ho2, h2, h3⟩ := sat_store (C := C) (cs' := putS (j * T.size) (cellsL v) cur.toList) .here hs2 hb
      refine ⟨_, hp, ho2, ?_, ?_, h3⟩
      · have hsz := (ht _ _ hi).size
        simp [execOp, ho, hf.ev hx, hf.ev hy, Instr.storeAt, Instr.sureAddr, storeVar, hsz, cellsL_eq, hle, hrun]
      · obtain ⟨k1, k2, ka, kb, kdj, kpt, ksep⟩ := h2.os
        refine ⟨h2.inp, h2.ino, h2.dj, h2.ps, k1, k2, ka, kb, kdj, ⟨putS (j * T.size) (cellsL v) cs, ⟨?_, by simpa using q2, q3, .inr ⟨b, _, rfl, kpt, ?_, ?_⟩⟩, lreps.set hj hrz⟩, ksep⟩
        · rw [putS_len (by rw [hln, q1]; exact hjs), q1]; simp
        · simp only [List.size_toArray]; rw [putS_len (by rw [hln]; simp [q6]; omega)]; simpa using q6
        · rw [← q7]
          simp only [List.length_set]
          exact putS_take_comm (by rw [hln]; exact hjs) (by rw [hln, Array.length_toList, q6]; omega)) hS g
end
end Go.Proofs.YtkhddfknpegpmaaGreat.SL

/- Ranging over a function: the loop's rounds, the calls of its yield. -/
set_option linter.unusedVariables false
set_option linter.unusedSimpArgs false
namespace Go.Proofs.YtkhddfknpegpmaaGreat.SL

theorem put_le {w : World} {b : Nat} {o' : Obj} {h : Heap} (hl : h.le (hpOf w)) (hn : h b = none) : h.le (hpOf (w.putObj b o')) := fun x u e => by
  have hx : x ≠ b := fun q => by subst q; rw [hn] at e; cases e
  have := hl _ _ e
  simp only [hpOf, World.putObj] at this ⊢
  rw [Array.getElem?_setIfInBounds_ne (Ne.symm hx)]
  exact this
theorem put_one {w : World} {b : Nat} {o o' : Obj} (hb : w.heap[b]? = some o) : (Heap.one b o').le (hpOf (w.putObj b o')) := Heap.one_le (by
  have hlt : b < w.heap.size := (Array.getElem?_eq_some_iff.1 hb).1
  simp [hpOf, World.putObj, hlt])
theorem put_rest {w : World} {b : Nat} {o' : Obj} : Rest w (w.putObj b o') := ⟨rfl, rfl, rfl, Nat.le_refl _, by simp [World.putObj]⟩
theorem dj_one {h : Heap} {b : Nat} {o o' : Obj} (d : (Heap.one b o).dj h) : (Heap.one b o').dj h := fun x => by
  rcases d x with q | q
  · left
    unfold Heap.one at q ⊢
    split at q
    · cases q
    · rename_i hx; rw [if_neg hx]
  · exact .inr q
theorem dj_at {h h' : Heap} {b : Nat} {o : Obj} (d : h.dj h') (e : h b = some o) : h' b = none := by
  rcases d b with q | q
  · rw [e] at q; cases q
  · exact q
theorem one_at (b : Nat) (o : Obj) : Heap.one b o b = some o := by simp [Heap.one]

/-- A loop's yield: at each value that it is called with a round is gone through, and it says 'more'. -/
structure Yld (P : Program) (l : Nat) {α : Type} (enc : α → Value) (Px : List α → α → List PA) (R : List α → OA) : Prop where
  go : ∀ (pre : List α) (x : α) (w : World) (hp ho hf : Heap), Sat w hp ho (Px pre x) [R pre] → hf.le (hpOf w) → hf.dj hp → hf.dj ho →
    ∃ fn tmps assign body, (Instr.yield l #[enc x]).run P w = .ok (.round l fn tmps assign body) w ∧
      RoundIn Fence.wide 0 P l fn tmps assign body w (fun e w' => ∃ hp' ho', e = .returned (.bool true) ∧ Sat w' hp' ho' [] [R (pre ++ [x])] ∧ hp.le hp' ∧ hf.le (hpOf w') ∧ hf.dj hp' ∧ hf.dj ho' ∧ Rest w w')
section
variable {C : Ctx} {k : List It} {E : Env} {Ps : List PA} {Os : List OA}
variable {o : Oper} {ops : Array Oper} {S : World → Prop} {r : Pl} {f : Bool}
theorem go_skipY (hw : wants ops E o = some false) (hd : okDst C.N o.dst = true) (g : Go C (.ops ops S r :: k) (setE o.dst undef E) Ps Os) : Go C (.ops ops S (.yld o r) :: k) E Ps Os := fun a w hp ho hf hs hb => by
  show rwp _ _ _ _ _ _ _
  rw [rwp, if_neg (by rw [wants_eq hf hw]; simp)]
  exact g _ w hp ho (hf.put hd undef) hs hb
theorem go_yield {α : Type} {enc : α → Value} {Px : List α → α → List PA} {R : List α → OA} {l : Nat} (hy : Yld C.P l enc Px R) (pre : List α) (x : α) {fx ax : Operand} {tys : Array TypeId} {rr : List OA} (ho : o.op = .call ⟨.value fx, #[ax], tys⟩) (hw : wants ops E o = some true)
    (hfx : ev E fx = some (.func (.yield l) #[] #[])) (hax : ev E ax = some (enc x)) (hd : okDst C.N o.dst = true) (hP : Subs Ps (Px pre x)) (hO : Takes Os [R pre] rr)
    (g : Go C (.ops ops S r :: k) (setE o.dst (.bool true) E) Ps (R (pre ++ [x]) :: rr)) : Go C (.ops ops S (.yld o r) :: k) E Ps Os := fun a w hp ho' hf hs hb => by
  show rwp _ _ _ _ _ _ _
  rw [rwp, if_pos (wants_eq hf hw)]
  obtain ⟨h1, h2, a1, b1, c1, d1, e1⟩ := Sep.takes hO hs.os
  obtain ⟨fn, tmps, assign, body, hrun, hround⟩ := hy.go pre x w hp h1 (C.hf.add h2) ⟨hs.inp, a1.tr hs.ino, Heap.dj_le hs.dj (Heap.le_refl _) a1, (hs.ents hP.ents).ps, d1⟩ (Heap.add_le hb.hf (b1.tr hs.ino))
    (Heap.add_dj hb.djp (Heap.dj_symm (Heap.dj_le hs.dj (Heap.le_refl _) b1))) (Heap.add_dj (Heap.dj_le hb.djo (Heap.le_refl _) a1) (Heap.dj_symm c1))
  have hex : (execOp a.eval o).run C.P w = .ok (.round l fn tmps assign body) w := by
    simp [execOp, ho, resolve, hf.ev hfx, hf.ev hax, Deferred.ofValue, invoke, hrun]
  refine ⟨fun _ _ => trivial, ?_⟩
  rw [show Fence.wide.round = none from rfl, Oper.semAt_none, hex, Oper.uponIn_round]
  refine ⟨fun h => by simp [Fence.wide] at h, hround.mono ?_⟩
  rintro e w' ⟨hp', ho2, rfl, hs', hle, hfl, djp, djo, hrest⟩
  have dfo : C.hf.dj h2 := Heap.dj_le hb.djo (Heap.le_refl _) b1
  have l2 : h2.le (C.hf.add h2) := Heap.le_add_right dfo
  have dA : ho2.dj h2 := Heap.dj_symm (Heap.dj_le djo l2 (Heap.le_refl _))
  have dB : hp'.dj h2 := Heap.dj_symm (Heap.dj_le djp l2 (Heap.le_refl _))
  have sat : Sat w' hp' (ho2.add h2) Ps ([R (pre ++ [x])] ++ rr) := ⟨hs'.inp, Heap.add_le hs'.ino (l2.tr hfl), Heap.dj_symm (Heap.add_dj (Heap.dj_symm hs'.dj) (Heap.dj_symm dB)),
    fun p hp0 => p.up hle (hs.ps p hp0), Sep.app (Heap.le_add_left _ _) (Heap.le_add_right dA) dA hs'.os (Sep.up hle e1)⟩
  have base : Base C w' hp' (ho2.add h2) := ⟨hb.hp0.tr hle, (Heap.le_add_left _ _).tr hfl, Heap.dj_le djp (Heap.le_add_left _ _) (Heap.le_refl _),
    Heap.dj_symm (Heap.add_dj (Heap.dj_symm (Heap.dj_le djo (Heap.le_add_left _ _) (Heap.le_refl _))) (Heap.dj_symm dfo)), hb.rest.trans hrest⟩
  exact g _ w' hp' _ (hf.put hd (.bool true)) sat base
end

/-! ### the statement -/
/-- A round's frame. -/
def rc (P : Program) (n l : Nat) (w0 : World) (hp0 hf : Heap) : Ctx := ⟨P, default, ⟨n, []⟩, some l, w0, hp0, hf, fun _ _ _ => False, fun _ _ _ => False, fun _ _ _ h => h, fun _ _ h => h⟩
/-- Between two rounds: the loop's record, and what the body keeps. -/
def loopA (Ps : List PA) (l : Nat) (rec : Loop) (Os : List OA) : OA :=
  ⟨fun hp ho => (∀ p, p ∈ Ps → p.p hp) ∧ ∃ h2, h2.le ho ∧ (Heap.one l (.loop rec)).le ho ∧ (Heap.one l (.loop rec)).dj h2 ∧ Sep hp Os h2,
    fun hl ⟨a, h2, b, c, d, e⟩ => ⟨fun p hp => p.up hl (a p hp), h2, b, c, d, Sep.up hl e⟩⟩
def after (C : Ctx) (D : Nat) : Ctx := { C with N := ⟨C.N.n, { target := .collected D, args := #[] } :: C.N.ds⟩, hf := C.hf.add (Heap.one D (.deferred (some []))) }
section
variable {C : Ctx} {k : List It} {E : Env} {Ps : List PA} {Os : List OA}
theorem rounds {P : Program} {n l t : Nat} {α : Type} {enc : α → Value} {Px : List α → α → List PA} {assign body : Code} {tmps : Array Value} {fn : FuncId} {D : Nat} (O : List α → List OA) (hN : tmps.size = n) (ht : Nat.blt t n = true) (hE : ∀ d v, look E d = some v → tmps[d]? = some v)
    {X : Type} (chg : X → Env) (rest : Env) (O1 : List α → α → X → List OA) (J : List α → α → X → Prop)
    (ha : ∀ pre x w0 hp0 hf0, Go (rc P n l w0 hp0 hf0) [.code assign, .back (Bk (rc P n l w0 hp0 hf0) chg rest (fun _ => Px pre x ++ Ps) (O1 pre x) (J pre x) (fun _ => 0) 1)] ((t, enc x) :: E) (Px pre x ++ Ps) (O pre))
    (hb : ∀ pre x y, J pre x y → ∀ w0 hp0 hf0, Go (rc P n l w0 hp0 hf0) [.code body, .back (Bk (rc P n l w0 hp0 hf0) (fun _ : Unit => []) [] (fun _ => Ps) (fun _ => O (pre ++ [x])) (fun _ => True) (fun _ => 0) 1)] (chg y ++ rest) (Px pre x ++ Ps) (O1 pre x y)) :
    Yld P l enc Px (fun pre => loopA Ps l { state := .ready, pending := none, fn, tmps, params := #[t], assign, body, defers := D } (O pre)) := ⟨fun pre x w hp ho hf hs hfw d1 d2 => by
  generalize hrec : ({ state := .ready, pending := none, fn, tmps, params := #[t], assign, body, defers := D } : Loop) = rec at *
  obtain ⟨g1, _, la, _, _, ⟨hps, h2, lb, lr, dr, sO⟩, _⟩ := hs.os
  have lro : (Heap.one l (.loop rec)).le ho := lr.tr la
  have hl : w.heap[l]? = some (.loop rec) := hs.ino _ _ (lro _ _ (one_at _ _))
  have hyr := run_yield (P := P) (args := #[enc x]) hl (by rw [← hrec]; rfl)
  refine ⟨_, _, _, _, hyr, ?_⟩
  have dfr : hf.dj (Heap.one l (.loop rec)) := Heap.dj_le d2 (Heap.le_refl _) lro
  have dpr : hp.dj (Heap.one l (.loop rec)) := Heap.dj_le hs.dj (Heap.le_refl _) lro
  have lO : h2.le ho := lb.tr la
  have fl : hf l = none := by
    rcases dfr l with q | q
    · exact q
    · rw [one_at] at q; cases q
  refine roundIn_of_wpIn (F := Fence.wide) (n := 0) trivial ?_
  have hfit : Fits ⟨n, []⟩ ((t, enc x) :: E) { tmps := (rec.params.zip #[enc x]).foldl (fun tmps (t, a) => tmps.setIfInBounds t a) rec.tmps, defers := [] } := by
    have hz : (rec.params.zip #[enc x]).foldl (fun tmps (t, a) => tmps.setIfInBounds t a) rec.tmps = tmps.setIfInBounds t (enc x) := by rw [← hrec]; simp
    rw [hz]
    refine ⟨by simp [hN], rfl, fun d v e => ?_⟩
    simp only [look] at e
    have htl : t < tmps.size := by rw [hN]; exact Nat.le_of_ble_eq_true ht
    show (tmps.setIfInBounds t (enc x))[d]? = some v
    cases hbq : Nat.beq t d with
    | true =>
      rw [hbq] at e
      simp at e
      subst e
      rw [← Nat.eq_of_beq_eq_true hbq]
      simp [htl]
    | false =>
      rw [hbq] at e
      have hne : t ≠ d := fun q => by subst q; rw [Nat.beq_refl] at hbq; cases hbq
      rw [Array.getElem?_setIfInBounds_ne hne]
      exact hE d v e
  have hpx : ∀ p, p ∈ Px pre x ++ Ps → p.p hp := fun p hm => by
    rcases List.mem_append.1 hm with q | q
    · exact hs.ps p q
    · exact hps p q
  have sat1 : Sat w hp h2 (Px pre x ++ Ps) (O pre) := ⟨hs.inp, lO.tr hs.ino, Heap.dj_le hs.dj (Heap.le_refl _) lO, hpx, sO⟩
  have hfr : (hf.add (Heap.one l (.loop rec))).le (hpOf w) := Heap.add_le hfw (lro.tr hs.ino)
  have base1 : Base (rc P n l w hp (hf.add (Heap.one l (.loop rec)))) w hp h2 := ⟨Heap.le_refl _, hfr, Heap.add_dj d1 (Heap.dj_symm dpr), Heap.add_dj (Heap.dj_le d2 (Heap.le_refl _) lO) dr, .refl _⟩
  have step1 := ha pre x w hp (hf.add (Heap.one l (.loop rec))) _ w hp h2 hfit sat1 base1
  rw [show rec.assign = assign from by rw [← hrec], show rec.body = body from by rw [← hrec]]
  refine wpIn_mono (show assign.wpIn (Fence.wide.inRound l) 0 P _ _ w from step1) fun e a1 w1 q => ?_
  cases e with
  | normal =>
    obtain ⟨y, hp1, ho1, f1, s1, b1, j1, _⟩ := q
    have hl1 : w1.heap[l]? = some (.loop rec) := b1.hf _ _ (Heap.le_add_right dfr _ _ (one_at _ _))
    refine ⟨_, run_beginRound hl1 (by rw [← hrec]), ?_⟩
    have r1 : (Heap.one l (.loop rec)).dj hp1 := Heap.dj_le b1.djp (Heap.le_add_right dfr) (Heap.le_refl _)
    have r2 : (Heap.one l (.loop rec)).dj ho1 := Heap.dj_le b1.djo (Heap.le_add_right dfr) (Heap.le_refl _)
    have r3 : hf.dj hp1 := Heap.dj_le b1.djp (Heap.le_add_left _ _) (Heap.le_refl _)
    have r4 : hf.dj ho1 := Heap.dj_le b1.djo (Heap.le_add_left _ _) (Heap.le_refl _)
    have dfb : ∀ o', hf.dj (Heap.one l o') := fun o' => Heap.dj_symm (dj_one (Heap.dj_symm dfr))
    have step2 := hb pre x y j1 (w1.putObj l (.loop { rec with state := .busy })) hp1 (hf.add (Heap.one l (.loop { rec with state := .busy }))) a1 _ hp1 ho1 f1
      ⟨put_le s1.inp (dj_at r1 (one_at _ _)), put_le s1.ino (dj_at r2 (one_at _ _)), s1.dj, s1.ps, s1.os⟩
      ⟨Heap.le_refl _, Heap.add_le (put_le ((Heap.le_add_left _ _).tr b1.hf) fl) (put_one hl1), Heap.add_dj r3 (dj_one r1), Heap.add_dj r4 (dj_one r2), .refl _⟩
    refine wpIn_mono (show body.wpIn (Fence.wide.inRound l) 0 P _ _ _ from step2) fun e2 a2 w3 q2 => ?_
    cases e2 with
    | normal =>
      obtain ⟨_, hp3, ho3, f3, s3, b3, _, _⟩ := q2
      have hl3 : w3.heap[l]? = some (.loop { rec with state := .busy }) := b3.hf _ _ (Heap.le_add_right (dfb _) _ _ (one_at _ _))
      have he := run_endRound (P := P) none hl3
      have hrr : ({ { rec with state := LoopState.busy } with state := if (none : Option Code).isNone then LoopState.ready else LoopState.done, pending := none } : Loop) = rec := by rw [← hrec]; rfl
      rw [hrr] at he
      refine ⟨_, _, he, ?_⟩
      have t1 : (Heap.one l (.loop { rec with state := .busy })).dj hp3 := Heap.dj_le b3.djp (Heap.le_add_right (dfb _)) (Heap.le_refl _)
      have t2 : (Heap.one l (.loop { rec with state := .busy })).dj ho3 := Heap.dj_le b3.djo (Heap.le_add_right (dfb _)) (Heap.le_refl _)
      have t3 : hf.dj hp3 := Heap.dj_le b3.djp (Heap.le_add_left _ _) (Heap.le_refl _)
      have t4 : hf.dj ho3 := Heap.dj_le b3.djo (Heap.le_add_left _ _) (Heap.le_refl _)
      have dN : (Heap.one l (.loop rec)).dj ho3 := dj_one t2
      refine ⟨hp3, (Heap.one l (.loop rec)).add ho3, rfl, ⟨put_le s3.inp (dj_at t1 (one_at _ _)), Heap.add_le (put_one hl3) (put_le s3.ino (dj_at t2 (one_at _ _))), Heap.dj_symm (Heap.add_dj (dj_one t1) (Heap.dj_symm s3.dj)), (fun _ h => nomatch h),
          sep_one ⟨s3.ps, ho3, Heap.le_add_right dN, Heap.le_add_left _ _, dN, s3.os⟩⟩, b1.hp0.tr b3.hp0, put_le ((Heap.le_add_left _ _).tr b3.hf) fl, t3, Heap.dj_symm (Heap.add_dj (Heap.dj_symm (dfb _)) (Heap.dj_symm t4)),
          (b1.rest.trans put_rest).trans (b3.rest.trans put_rest)⟩
    | exit i => exact q2.elim
    | goto i => exact q2.elim
    | ret => exact q2.elim
    | panic c => exact q2.elim
    | outgrown => exact q2.elim
  | exit i => exact q.elim
  | goto i => exact q.elim
  | ret => exact q.elim
  | panic c => exact q.elim
  | outgrown => exact q.elim⟩
theorem go_range {α : Type} {enc : α → Value} {Px : List α → α → List PA} {g : Operand} {t : Nat} {assign body : Code} {gf : FuncId} {first cap : Array Value} (hro : C.ro = none) (hg : ev E g = some (.func (.func gf) first cap)) (ht : Nat.blt t C.N.n = true)
    (O : List α → List OA) (OsI OsI' : List OA) {r1 rr : List OA} (hO1 : Takes Os OsI r1) (hO2 : Takes r1 (O []) rr) (PsI : List PA) (hP : Subs Ps PsI) (Sx : List α → Prop)
    (hseq : ∀ (l : Nat) (R : List α → OA), Yld C.P l enc Px R → Spec C.P gf (first ++ #[.func (.yield l) #[] #[]] ++ cap) PsI (R [] :: OsI) (fun v Ps' Os' => ∃ xs, Sx xs ∧ Ps' = [] ∧ Os' = R xs :: OsI'))
    {X : Type} (chg : X → Env) (rest : Env) (O1 : List α → α → X → List OA) (J : List α → α → X → Prop)
    (ha : ∀ l pre x w0 hp0 hf0, Go (rc C.P C.N.n l w0 hp0 hf0) [.code assign, .back (Bk (rc C.P C.N.n l w0 hp0 hf0) chg rest (fun _ => Px pre x ++ Ps) (O1 pre x) (J pre x) (fun _ => 0) 1)] ((t, enc x) :: E) (Px pre x ++ Ps) (O pre))
    (hb : ∀ l pre x y, J pre x y → ∀ w0 hp0 hf0, Go (rc C.P C.N.n l w0 hp0 hf0) [.code body, .back (Bk (rc C.P C.N.n l w0 hp0 hf0) (fun _ : Unit => []) [] (fun _ => Ps) (fun _ => O (pre ++ [x])) (fun _ => True) (fun _ => 0) 1)] (chg y ++ rest) (Px pre x ++ Ps) (O1 pre x y))
    (done : ∀ D xs, C.hf.dj (Heap.one D (.deferred (some []))) → Sx xs → Go (after C D) k E Ps (OsI' ++ (O xs ++ rr))) : Go C (.code (.rangeFunc g #[t] assign body) :: k) E Ps Os := by
  obtain ⟨P, fn, N, ro, w0, hp0, hf0, Q, fin, pan, out⟩ := C
  cases hro
  intro a w hp ho hf hs hb'
  obtain ⟨hI, hr1, aI, ar1, dI, sI, sr1⟩ := Sep.takes hO1 hs.os
  obtain ⟨hO, hR, aO, aR, dO, sO, sR⟩ := Sep.takes hO2 sr1
  show (Code.rangeFunc g #[t] assign body).wpIn Fence.wide 0 P (den none P fin k) a w
  refine wpIn_rangeFunc fun fnid _ => ?_
  generalize hrec : ({ state := .ready, pending := none, fn := fnid, tmps := a.tmps, params := #[t], assign, body, defers := w.heap.size } : Loop) = rec
  have hY := rounds (Ps := Ps) (E := E) (Px := Px) (P := P) (n := N.n) (l := w.heap.size + 1) (t := t) (enc := enc) (assign := assign) (body := body) (tmps := a.tmps) (fn := fnid) (D := w.heap.size) O hf.size ht hf.at_ chg rest O1 J (ha _) (hb _)
  rw [hrec] at hY
  have hsp := hseq (w.heap.size + 1) _ hY
  obtain ⟨fd, q1, q2, q3⟩ := hsp.fn
  have hres : (resolve a.eval (rangeCall g (w.heap.size + 1)) 0).run P ((w.alloc (.deferred (some []))).alloc (.loop rec)) = .ok { target := .fn (.func gf) cap, args := first ++ #[.func (.yield (w.heap.size + 1)) #[] #[]] } ((w.alloc (.deferred (some []))).alloc (.loop rec)) := by
    have hg' : a.eval g = .func (.func gf) first cap := hf.ev hg
    show (Deferred.ofValue (a.eval g) (#[Operand.const (.func (.yield (w.heap.size + 1)) #[] #[])].map a.eval)).run P _ = _
    rw [hg']
    simp [Deferred.ofValue, Act.eval]
  have hinv : (invoke (.fn (.func gf) cap) (first ++ #[.func (.yield (w.heap.size + 1)) #[] #[]])).run P ((w.alloc (.deferred (some []))).alloc (.loop rec)) = .ok (.enter gf (first ++ #[.func (.yield (w.heap.size + 1)) #[] #[]] ++ cap)) ((w.alloc (.deferred (some []))).alloc (.loop rec)) := by
    simp only [invoke, callFunc, program, bind, Sem.bind, Sem.run, q1, q2, q3]
    simp only [Bool.false_eq_true, if_false]
    rfl
  refine ⟨_, _, _, _, _, gf, _, _, by have := run_enterLoop_outer (P := P) (w := w) fnid a.tmps #[t] assign body; rw [hrec] at this; exact this, hres, fun _ _ => trivial, hinv, fun h => by simp [Fence.wide] at h, ?_⟩
  have hwsz : ((w.alloc (.deferred (some []))).alloc (.loop rec)).heap = (w.heap.push (.deferred (some []))).push (.loop rec) := rfl
  have fresh : ∀ h : Heap, h.le (hpOf w) → ∀ b, w.heap.size ≤ b → h b = none := fun h hl b hb => by
    cases e : h b with
    | none => rfl
    | some u => have := hl _ _ e; simp [hpOf] at this; have := (Array.getElem?_eq_some_iff.1 this).1; omega
  have grow : (hpOf w).le (hpOf ((w.alloc (.deferred (some []))).alloc (.loop rec))) := fun b u e => by
    have hlt : b < w.heap.size := (Array.getElem?_eq_some_iff.1 e).1
    simp only [hpOf, hwsz] at e ⊢
    rw [Array.getElem?_push_lt (by simp; omega)]
    simp only [Option.some.injEq]
    rw [Array.getElem_push_lt hlt]
    exact (Array.getElem?_eq_some_iff.1 e).2
  have hD : ((w.alloc (.deferred (some []))).alloc (.loop rec)).heap[w.heap.size]? = some (.deferred (some [])) := by
    rw [hwsz, Array.getElem?_push, Array.getElem?_push]; simp
  have hL : ((w.alloc (.deferred (some []))).alloc (.loop rec)).heap[w.heap.size + 1]? = some (.loop rec) := by
    rw [hwsz, Array.getElem?_push, if_pos (by simp)]
  have oneD : (Heap.one w.heap.size (.deferred (some []))).le (hpOf ((w.alloc (.deferred (some []))).alloc (.loop rec))) := Heap.one_le hD
  have oneL : (Heap.one (w.heap.size + 1) (.loop rec)).le (hpOf ((w.alloc (.deferred (some []))).alloc (.loop rec))) := Heap.one_le hL
  have djD : ∀ h : Heap, h.le (hpOf w) → (Heap.one w.heap.size (.deferred (some []))).dj h := fun h hl => Heap.one_dj (fresh h hl _ (Nat.le_refl _))
  have djL : ∀ h : Heap, h.le (hpOf w) → ∀ o', (Heap.one (w.heap.size + 1) o').dj h := fun h hl o' => Heap.one_dj (fresh h hl _ (by omega))
  have djDL : ∀ o', (Heap.one w.heap.size (.deferred (some []))).dj (Heap.one (w.heap.size + 1) o') := fun o' => Heap.one_dj (by simp [Heap.one])
  have hr0 : Rest w ((w.alloc (.deferred (some []))).alloc (.loop rec)) := ⟨rfl, rfl, rfl, Nat.le_refl _, by rw [hwsz]; simp; omega⟩
  have lI : hI.le (hpOf w) := aI.tr hs.ino
  have lr1 : hr1.le (hpOf w) := ar1.tr hs.ino
  have lO : hO.le (hpOf w) := aO.tr lr1
  have lR : hR.le (hpOf w) := aR.tr lr1
  -- the owned of the call: the record, the body's, the iterator's
  have dLO : (Heap.one (w.heap.size + 1) (.loop rec)).dj hO := djL _ lO _
  have dIO : hI.dj hO := Heap.dj_le dI (Heap.le_refl _) aO
  have dIR : hI.dj hR := Heap.dj_le dI (Heap.le_refl _) aR
  have dX : ((Heap.one (w.heap.size + 1) (.loop rec)).add hO).dj hI := Heap.add_dj (djL _ lI _) (Heap.dj_symm dIO)
  have dpO : hp.dj hO := Heap.dj_le hs.dj (Heap.le_refl _) (aO.tr ar1)
  have dpI : hp.dj hI := Heap.dj_le hs.dj (Heap.le_refl _) aI
  have dpR : hp.dj hR := Heap.dj_le hs.dj (Heap.le_refl _) (aR.tr ar1)
  have satI : Sat ((w.alloc (.deferred (some []))).alloc (.loop rec)) hp (((Heap.one (w.heap.size + 1) (.loop rec)).add hO).add hI) PsI (loopA Ps (w.heap.size + 1) rec (O []) :: OsI) :=
    ⟨hs.inp.tr grow, Heap.add_le (Heap.add_le oneL (lO.tr grow)) (lI.tr grow), Heap.dj_symm (Heap.add_dj (Heap.add_dj (djL _ hs.inp _) (Heap.dj_symm dpO)) (Heap.dj_symm dpI)), (hs.ents hP.ents).ps,
      (Heap.one (w.heap.size + 1) (.loop rec)).add hO, hI, Heap.le_add_left _ _, Heap.le_add_right dX, dX, ⟨hs.ps, hO, Heap.le_add_right dLO, Heap.le_add_left _ _, dLO, sO⟩, sI⟩
  have fI : hf0.dj hI := Heap.dj_le hb'.djo (Heap.le_refl _) aI
  have fO : hf0.dj hO := Heap.dj_le hb'.djo (Heap.le_refl _) (aO.tr ar1)
  have fR : hf0.dj hR := Heap.dj_le hb'.djo (Heap.le_refl _) (aR.tr ar1)
  have hfw : hf0.le (hpOf w) := hb'.hf
  -- the frame of the call
  have dFD : (hf0.add hR).dj (Heap.one w.heap.size (.deferred (some []))) := Heap.dj_symm (Heap.dj_symm (Heap.add_dj (Heap.dj_symm (djD _ hfw)) (Heap.dj_symm (djD _ lR))))
  have frame : ((hf0.add hR).add (Heap.one w.heap.size (.deferred (some [])))).le (hpOf ((w.alloc (.deferred (some []))).alloc (.loop rec))) := Heap.add_le (Heap.add_le (hfw.tr grow) (lR.tr grow)) oneD
  have fdp : ((hf0.add hR).add (Heap.one w.heap.size (.deferred (some [])))).dj hp := Heap.add_dj (Heap.add_dj hb'.djp (Heap.dj_symm dpR)) (djD _ hs.inp)
  have fdo : ((hf0.add hR).add (Heap.one w.heap.size (.deferred (some [])))).dj (((Heap.one (w.heap.size + 1) (.loop rec)).add hO).add hI) :=
    Heap.dj_symm (Heap.add_dj (Heap.add_dj (Heap.dj_symm (Heap.add_dj (Heap.add_dj (Heap.dj_symm (djL _ hfw _)) (Heap.dj_symm (djL _ lR _))) (djDL _))) (Heap.dj_symm (Heap.add_dj (Heap.add_dj fO (Heap.dj_symm dO)) (djD _ lO)))) (Heap.dj_symm (Heap.add_dj (Heap.add_dj fI (Heap.dj_symm dIR)) (djD _ lI))))
  refine (callsIn_wide.2 (hsp.calls _ hp _ _ satI frame fdp fdo)).mono ?_
  rintro e w3 ⟨v, hp3, ho3, Ps3, Os3, rfl, ⟨xs, hxs, rfl, rfl⟩, hs3, hle3, hfl3, e1, e2, hr3⟩
  obtain ⟨gA, gI, mA, mI, dAI, ⟨hps3, gO, mO, mL, dLO3, sO3⟩, sI3⟩ := hs3.os
  have mLo : (Heap.one (w.heap.size + 1) (.loop rec)).le ho3 := mL.tr mA
  have hl3 : w3.heap[w.heap.size + 1]? = some (.loop rec) := hs3.ino _ _ (mLo _ _ (one_at _ _))
  have hend := run_endLoop (P := P) hl3 (by rw [← hrec]; simp)
  refine ⟨_, _, hend, ?_⟩
  rw [show rec.pending = none from by rw [← hrec]]
  have lR3 : hR.le ((hf0.add hR).add (Heap.one w.heap.size (.deferred (some [])))) := (Heap.le_add_right fR).tr (Heap.le_add_left _ _)
  have lF3 : (hf0.add (Heap.one w.heap.size (.deferred (some [])))).le ((hf0.add hR).add (Heap.one w.heap.size (.deferred (some [])))) := Heap.add_le ((Heap.le_add_left _ _).tr (Heap.le_add_left _ _)) (Heap.le_add_right dFD)
  have dL3 : ∀ h : Heap, h.dj ho3 → h (w.heap.size + 1) = none := fun h d => by
    rcases d (w.heap.size + 1) with q | q
    · exact q
    · rw [mLo _ _ (one_at _ _)] at q; cases q
  have oA : gO.le ho3 := mO.tr mA
  have dOI : gI.dj gO := Heap.dj_symm (Heap.dj_le dAI mO (Heap.le_refl _))
  have dRx : hR.dj ho3 := Heap.dj_le e2 lR3 (Heap.le_refl _)
  have dOR : gO.dj hR := Heap.dj_symm (Heap.dj_le dRx (Heap.le_refl _) oA)
  have dIR3 : gI.dj hR := Heap.dj_symm (Heap.dj_le dRx (Heap.le_refl _) mI)
  have dI3 : gI.dj (gO.add hR) := Heap.dj_symm (Heap.add_dj (Heap.dj_symm dOI) (Heap.dj_symm dIR3))
  have nO : gO (w.heap.size + 1) = none := dj_at dLO3 (one_at _ _)
  have nI : gI (w.heap.size + 1) = none := by
    rcases dAI (w.heap.size + 1) with q | q
    · rw [mL _ _ (one_at _ _)] at q; cases q
    · exact q
  refine done w.heap.size xs (Heap.dj_symm (djD _ hfw)) hxs { a with defers := { target := .collected w.heap.size, args := #[] } :: a.defers } (w3.putObj (w.heap.size + 1) _) hp3 (gI.add (gO.add hR)) ⟨hf.size, by show _ :: a.defers = _ :: N.ds; rw [hf.dfs], hf.at_⟩ ?_ ?_
  · refine ⟨put_le hs3.inp (dL3 _ hs3.dj), Heap.add_le (put_le (mI.tr hs3.ino) nI) (Heap.add_le (put_le (oA.tr hs3.ino) nO) (put_le (lR3.tr hfl3) (dL3 _ dRx))), ?_, hps3, ?_⟩
    · exact Heap.dj_symm (Heap.add_dj (Heap.dj_symm (Heap.dj_le hs3.dj (Heap.le_refl _) mI)) (Heap.add_dj (Heap.dj_symm (Heap.dj_le hs3.dj (Heap.le_refl _) oA)) (Heap.dj_le e1 lR3 (Heap.le_refl _))))
    · exact Sep.app (Heap.le_add_left _ _) (Heap.le_add_right dI3) dI3 sI3 (Sep.app (Heap.le_add_left _ _) (Heap.le_add_right dOR) dOR sO3 (Sep.up hle3 sR))
  · have dF1 : (hf0.add (Heap.one w.heap.size (.deferred (some [])))).dj ho3 := Heap.dj_le e2 lF3 (Heap.le_refl _)
    refine ⟨hb'.hp0.tr hle3, put_le (lF3.tr hfl3) (dL3 _ dF1), Heap.dj_le e1 lF3 (Heap.le_refl _), ?_, ((hb'.rest.trans hr0).trans hr3).trans put_rest⟩
    refine Heap.dj_symm (Heap.add_dj (Heap.dj_symm (Heap.dj_le dF1 (Heap.le_refl _) mI)) (Heap.add_dj (Heap.dj_symm (Heap.dj_le dF1 (Heap.le_refl _) oA)) ?_))
    exact Heap.dj_symm (Heap.add_dj fR (djD _ lR))
/-- The return, the loop's mark behind it. -/
theorem go_endM {D : Nat} {hf0 : Heap} {fin : Ctx} (hC : C = after fin D) (h0 : AtEnd fin) {v : Value} (Ps' : List PA) (Os' : List OA) {r : List OA} (hv : ∀ (a : Act) (w : World) (hp ho : Heap), Fits C.N E a → Sat w hp ho Ps Os → (results C.fn a.tmps).run C.P w = .ok v w)
    (q : C.Q v Ps' Os') (hP : Subs Ps Ps') (hO : Takes Os Os' r) {e : Exit} (he : e = .ret ∨ e = .normal) {a : Act} {w : World} {hp ho : Heap} (hf : Fits C.N E a) (hs : Sat w hp ho Ps Os) (hb : Base C w hp ho) (hd : fin.hf.dj (Heap.one D (.deferred (some [])))) :
    C.fin e a w := by
  subst hC
  have ofF : fin.hf.le (fin.hf.add (Heap.one D (.deferred (some [])))) := Heap.le_add_left _ _
  have ofD : (Heap.one D (.deferred (some []))).le (fin.hf.add (Heap.one D (.deferred (some [])))) := Heap.le_add_right hd
  have hDw : w.heap[D]? = some (.deferred (some [])) := hb.hf _ _ (ofD _ _ (one_at _ _))
  have nD : ∀ h : Heap, (fin.hf.add (Heap.one D (.deferred (some [])))).dj h → h D = none := fun h d => dj_at (Heap.dj_le d ofD (Heap.le_refl _)) (one_at _ _)
  have sat2 : Sat (w.putObj D (.deferred none)) hp ho Ps Os := ⟨put_le hs.inp (nD _ hb.djp), put_le hs.ino (nD _ hb.djo), hs.dj, hs.ps, hs.os⟩
  have h : ∃ v, (results fin.fn a.tmps).run fin.P (w.putObj D (.deferred none)) = .ok v (w.putObj D (.deferred none)) ∧ endR fin.w0 fin.hp0 fin.hf fin.Q (.returned v) (w.putObj D (.deferred none)) := by
    obtain ⟨h1, h2, a1, b, c1, d, e⟩ := Sep.takes hO sat2.os
    exact ⟨v, hv a _ hp ho hf sat2, v, hp, ho, Ps', Os', rfl, q, ⟨sat2.inp, sat2.ino, sat2.dj, (sat2.ents hP.ents).ps, Sep.mono a1 d⟩, hb.hp0, put_le (ofF.tr hb.hf) (dj_at (Heap.dj_symm hd) (one_at _ _)), Heap.dj_le hb.djp ofF (Heap.le_refl _), Heap.dj_le hb.djo ofF (Heap.le_refl _), hb.rest.trans put_rest⟩
  have hds : a.defers = [{ target := .collected D, args := #[] }] := by rw [hf.dfs]; show _ :: fin.N.ds = _; rw [h0.2]
  show fin.fin e a w
  rw [h0.1]
  rcases he with rfl | rfl <;> (show LeavesInM _ _ _ _ _ _ _ _ _; rw [hds]; exact ⟨by simp, .inl ⟨D, _, rfl, run_takeDeferred hDw, h⟩⟩)
theorem go_endR {D : Nat} {C0 : Ctx} (h0 : AtEnd C0) (hd : C0.hf.dj (Heap.one D (.deferred (some [])))) {v : Value} (Ps' : List PA) (Os' : List OA) {r : List OA} (hv : ∀ (a : Act) (w : World) (hp ho : Heap), Fits (after C0 D).N E a → Sat w hp ho Ps Os → (results (after C0 D).fn a.tmps).run (after C0 D).P w = .ok v w)
    (q : C0.Q v Ps' Os') (hP : Subs Ps Ps') (hO : Takes Os Os' r) : Go (after C0 D) [] E Ps Os := fun a w hp ho hf hs hb =>
  go_endM (hf0 := Heap.nil) (fin := C0) rfl h0 Ps' Os' hv q hP hO (.inr rfl) hf hs hb hd
theorem go_retR {D : Nat} {C0 : Ctx} (h0 : AtEnd C0) (hd : C0.hf.dj (Heap.one D (.deferred (some [])))) {v : Value} (Ps' : List PA) (Os' : List OA) {r : List OA} (hv : ∀ (a : Act) (w : World) (hp ho : Heap), Fits (after C0 D).N E a → Sat w hp ho Ps Os → (results (after C0 D).fn a.tmps).run (after C0 D).P w = .ok v w)
    (q : C0.Q v Ps' Os') (hP : Subs Ps Ps') (hO : Takes Os Os' r) : Go (after C0 D) (.code .ret :: k) E Ps Os := fun a w hp ho hf hs hb =>
  wpIn_ret (by show den C0.ro C0.P C0.fin k .ret a w; rw [den_ret]; exact go_endM (hf0 := Heap.nil) (fin := C0) rfl h0 Ps' Os' hv q hP hO (.inl rfl) hf hs hb hd)
end
end Go.Proofs.YtkhddfknpegpmaaGreat.SL

/- copy, append of zeros, the library's word on two slices' overlapping. -/
set_option linter.unusedVariables false
set_option linter.unusedSimpArgs false
namespace Go.Proofs.YtkhddfknpegpmaaGreat.SL
section
variable {C : Ctx} {k : List It} {E : Env} {Ps : List PA} {Os : List OA}
variable {o : Oper} {ops : Array Oper} {S : World → Prop} {r : Pl} {f : Bool}
theorem go_copy {tb : TB} (ht : TOk C.P tb) {d x : Operand} {t e : TypeId} {s1 : Nat} {a1 : Bool} {z1 : Value} {y1 : Nat} {i : TI} {b oo dn dc sn sc b2 o2 : Nat} {cur news : List Value} {rr : List OA}
    (ho : o.op = .call ⟨.builtin .copy, #[d, x], #[t, t]⟩) (hw : wants ops E o = some true) (hd' : ev E d = some (.slice (some ⟨b, oo, none⟩) dn dc)) (hx : ev E x = some (.slice (some ⟨b2, o2, none⟩) sn sc)) (hi : lookT tb t = some ⟨.slice e, s1, a1, z1, y1⟩) (he : lookT tb e = some i)
    (hd : okDst C.N o.dst = true) (hr : Rem (pt b e cur) Os rr) (m : Nat) (hm : Nat.min sn dn = m) (hnews : At Ps Os b2 o2 (m * i.size) news) (h1 : oneCells news = true) (hl : oo + m * i.size ≤ cur.length)
    (hS : f = true → ∀ w hp ho, Sat w hp ho Ps (pt b e (putS oo news cur) :: rr) → S w)
    (g : Go C (.ops ops S r :: k) (setE o.dst (.int .i64 (m : Int)) E) Ps (pt b e (putS oo news cur) :: rr)) : Go C (.ops ops S (.one 0 f o r) :: k) E Ps Os :=
  go_eff (α := Unit) (fun _ => .int .i64 (m : Int)) (fun _ => Ps) (fun _ => pt b e (putS oo news cur) :: rr) hw hd (fun a w hp ho' hf hs hb => by
    have hu := (ht _ _ hi).u
    have hsz := (ht _ _ he).size w
    obtain ⟨h1', _, la, _, _, d1, _⟩ := Sep.rem hr hs.os
    change h1' b = _ at d1
    have hbw : w.heap[b]? = _ := hs.ino _ _ (la _ _ d1)
    have hlen : news.length = m * i.size := hnews.1
    have hload : (loadCells ⟨b2, o2, none⟩ (m * i.size)).run C.P w = .ok news.toArray w := by
      have := loadCells_run (P := C.P) (w := w) (b := b2) (m * i.size) 0 o2 news #[] hlen (fun j v hj => by rw [Nat.zero_add]; exact hnews.2 w hp ho' hs j v hj)
      simpa [loadCells] using this
    obtain ⟨c', hrun, hc'⟩ := run_storeCells (P := C.P) (b := b) (ty := e) (o := oo) news 0 cur.toArray w hbw (by rw [hlen]; simpa using hl) h1
    have : c' = (putS oo news cur).toArray := by apply Array.ext'; rw [hc']; simp [putS]
    subst this
    obtain ⟨ho2, h2, h3⟩ := sat_store (C := C) (cs' := putS oo news cur) hr hs hb
    refine ⟨(), _, hp, ho2, ?_, h2, h3⟩
    have hcopy : (Builtin.copy_ #[t, t] o.type #[.slice (some ⟨b, oo, none⟩) dn dc, .slice (some ⟨b2, o2, none⟩) sn sc]).run C.P w = .ok (.int .i64 (m : Int)) { w with heap := w.heap.setIfInBounds b (.cells (putS oo news cur).toArray e (0, 0)) } := by
      simp [Builtin.copy_, run_und hu w, hsz, Builtin.lenOf, Builtin.firstCells, hm, hload, hrun, goInt]
    simp [execOp, ho, resolve, invoke, builtin, hf.ev hd', hf.ev hx, hcopy]) (fun e x => hS e) (fun _ => g)
/-- append of zeros where there is no room: a new row; the old one stays. -/
theorem go_append_zeros {tb : TB} (ht : TOk C.P tb) {s x : Operand} {t t2 e : TypeId} {s1 : Nat} {a1 : Bool} {z1 : Value} {y1 : Nat} {kk : IntKind} {s2 : Nat} {a2 : Bool} {z2 : Value} {y2 : Nat} {i : TI} {b n c m : Nat} {old : List Value}
    (ho : o.op = .call ⟨.builtin .append, #[s, x], #[t, t2]⟩) (hw : wants ops E o = some true) (hs : ev E s = some (.slice (some ⟨b, 0, none⟩) n c)) (hx : ev E x = some (.int .i64 (m : Int))) (hi : lookT tb t = some ⟨.slice e, s1, a1, z1, y1⟩) (hi2 : lookT tb t2 = some ⟨.int kk, s2, a2, z2, y2⟩) (he : lookT tb e = some i)
    (hz : Nat.beq (cellsL i.zero).length i.size = true) (hy : Nat.ble i.bytes 100000 = true) (hd : okDst C.N o.dst = true) (hold : At Ps Os b 0 (n * i.size) old) (hc : c < n + m) (hn : n + m ≤ 100000000) (hpos : 0 < m) (hsz0 : Nat.ble 1 i.size = true)
    (hS : f = true → ∀ (b' : Nat) (cur : List Value) w hp ho, Sat w hp ho Ps (pt b' e cur :: Os) → S w)
    (g : ∀ (b' c' : Nat) (cur : List Value), cur.length = c' * i.size → cur.take (n * i.size) = old → n + m ≤ c' → c' ≤ maxLen → Go C (.ops ops S r :: k) (setE o.dst (.slice (some ⟨b', 0, none⟩) (n + m) c') E) Ps (pt b' e cur :: Os)) : Go C (.ops ops S (.one 0 f o r) :: k) E Ps Os := by
  have hzs : (i.zero.cells).size = i.size := by rw [cellsL_eq]; simpa using Nat.eq_of_beq_eq_true hz
  let cur : Nat → List Value := fun c' => old ++ (Builtin.zeroCells i.zero.cells m).toList ++ (Builtin.zeroCells i.zero.cells (c' - (n + m))).toList
  have hcl : ∀ c', n + m ≤ c' → (cur c').length = c' * i.size := fun c' h => by
    simp only [cur, List.length_append, Array.length_toList, size_zeroCells, hzs, hold.1, ← Nat.add_mul]
    congr 1; omega
  have hct : ∀ c', (cur c').take (n * i.size) = old := fun c' => by
    simp only [cur, List.append_assoc]
    rw [← hold.1, List.take_left]
  refine go_eff (α := { x : Nat × Nat // n + m ≤ x.2 ∧ x.2 ≤ maxLen }) (fun x => .slice (some ⟨x.1.1, 0, none⟩) (n + m) x.1.2) (fun _ => Ps) (fun x => pt x.1.1 e (cur x.1.2) :: Os) hw hd (fun a w hp ho' hf hs' hb => ?_) (fun e x => hS e _ _) (fun x => g x.1.1 x.1.2 _ (hcl _ x.2.1) (hct _) x.2.1 x.2.2)
  have hu := (ht _ _ hi).u
  have hu2 := (ht _ _ hi2).u
  obtain ⟨xi, q1, q2, q3, q4⟩ := (ht _ _ he).info
  have hby := Nat.le_of_ble_eq_true hy
  have hsz1 := Nat.le_of_ble_eq_true hsz0
  have hcap := grownCap_ge w (n + m) c e
  have hcapm := grownCap_le_maxLen w (n + m) c e (by simp only [maxLen]; omega)
  obtain ⟨ho2, h2, h3⟩ := sat_alloc (C := C) (w := { w with drawn := w.drawn + 1 }) ⟨hs'.inp, hs'.ino, hs'.dj, hs'.ps, hs'.os⟩ hb.drew (pt w.heap.size e (cur (grownCap w (n + m) c e))) (.cells (cur (grownCap w (n + m) c e)).toArray e) (fun h q => q)
  refine ⟨⟨(w.heap.size, grownCap w (n + m) c e), hcap, hcapm⟩, _, hp, ho2, ?_, h2, h3⟩
  have hfo := run_firstCells_some (P := C.P) w.drew xi.size n ⟨b, 0, none⟩ n c old (by rw [q3]; exact hold.1) (fun j v hj => by rw [run_addOff]; exact hold.2 w hp ho' hs' j v hj)
  have hwm : IntKind.i64.wrap (m : Int) = (m : Int) := wrap_i64 (by omega) (by omega)
  have hmb : m * i.bytes ≤ 100000000 * 100000 := Nat.mul_le_mul (by omega) hby
  have hmb' : ¬ (281474976710656 < (m : Int) * (i.bytes : Int)) := by
    rw [← Int.natCast_mul]; omega
  have hnb : (n + m) * i.bytes ≤ 100000000 * 100000 := Nat.mul_le_mul hn hby
  have h48 : ¬ (281474976710656 < Builtin.nextslicecap (n + m) c * i.bytes) := by
    have := growslice_fits hc (show (n + m) * i.bytes ≤ 140737488355328 by omega)
    omega
  have hnc : ¬ (n + m ≤ c) := by omega
  have h63 : ¬ (9223372036854775807 < ((n : Int) + (m : Int))) := by omega
  have hm0 : ¬ (m * i.size = 0) := by
    have := Nat.mul_le_mul hpos hsz1
    omega
  have hrun : (Builtin.append_ #[t, t2] o.type #[.slice (some ⟨b, 0, none⟩) n c, .int .i64 (m : Int)]).run C.P w = .ok (.slice (some ⟨w.heap.size, 0, none⟩) (n + m) (grownCap w (n + m) c e)) (w.drew.alloc (.cells (cur (grownCap w (n + m) c e)).toArray e)) := by
    rw [q3] at hfo
    simp [Builtin.append_, run_underlying hu, run_underlying hu2, sizeOf, typeInfo, zeroValue, q1, q2, q3, q4, asInt, asIntOf, hwm, hmb', h48, hnc, h63, hm0, Question.forced, hfo, newRow, grownCap, show ¬ ((m : Int) < 0) by omega]
    congr 2
    apply Array.ext'
    simp [cur]
  simp [execOp, ho, resolve, invoke, builtin, hf.ev hs, hf.ev hx, hrun]
  rfl
/-- A call of a library function that the model answers itself. -/
theorem ext_val {c : Call} {g : FuncId} {l : List Value} {fn : Func} {e : Array Value → Sem Value} {v : Value} (hfn : C.P.funcs[g]? = some fn) (hname : (fn.name == "runtime.NumGoroutine") = false) (hb : fn.body.isNone = true) (hnx : Extern.findNext fn = none) (he : Extern.find fn = some e)
    (ho : o.op = .call c) (hc : calleeOf E c = some (g, l)) (hrun : ∀ w hp ho, Sat w hp ho Ps Os → (e l.toArray).run C.P w = .ok v w) :
    ∀ a w hp ho, Fits C.N E a → Sat w hp ho Ps Os → (execOp a.eval o).run C.P w = .ok (.value v) w := fun a w hp ho' hf hs => by
  obtain ⟨callee, args, tys⟩ := c
  unfold calleeOf at hc
  simp only at hc
  split at hc
  · rename_i x
    split at hc
    · rename_i g' first cap e1
      split at hc
      · rename_i l' e2
        cases hc
        have := evs_eq hf e2
        have hargs : first ++ args.map a.eval ++ cap = (first.toList ++ (l' ++ cap.toList)).toArray := by
          apply Array.ext'
          simp [← this]
        have hcf := run_callFunc_extern (P := C.P) hfn hname hb hnx he (first ++ args.map a.eval ++ cap) w
        rw [hargs, hrun w hp ho' hs] at hcf
        simp only [execOp, ho, resolve, hf.ev e1, Deferred.ofValue, invoke, Sem.run_bind, Sem.run_pure, Result.andThen_ok, hargs, hcf]
      · cases hc
    · cases hc
  · cases hc
/-- Two slices in two blocks of one's own do not overlap. -/
theorem apart_run {tb : TB} (ht : TOk C.P tb) {tS tR e : TypeId} {s1 : Nat} {a1 : Bool} {z1 : Value} {y1 : Nat} {i : TI} (hi : lookT tb tS = some ⟨.slice e, s1, a1, z1, y1⟩) (he : lookT tb e = some i) {ba bb ta tb' oa ob la ca lb cb : Nat} {csa csb : List Value} {r1 r2 : List OA} (ha : Rem (pt ba ta csa) Os r1) (hb : Rem (pt bb tb' csb) r1 r2) (hne : csb ≠ []) :
    ∀ w hp ho, Sat w hp ho Ps Os → (Extern.SlicesOverlaps.overlaps #[tS, tS] #[tR] #[.slice (some ⟨ba, oa, none⟩) la ca, .slice (some ⟨bb, ob, none⟩) lb cb]).run C.P w = .ok (.bool false) w := fun w hp ho hs => by
  obtain ⟨g1, g2, x1, x2, x3, x4, x5⟩ := Sep.rem ha hs.os
  obtain ⟨k1, k2, y1', y2, y3, y4, y5⟩ := Sep.rem hb x5
  change g1 ba = _ at x4
  change k1 bb = _ at y4
  have hn : ba ≠ bb := fun q => by
    subst q
    rcases x3 ba with z | z
    · rw [x4] at z; cases z
    · rw [y1' _ _ y4] at z; cases z
  have wa : w.heap[ba]? = _ := hs.ino _ _ (x1 _ _ x4)
  have wb : w.heap[bb]? = _ := hs.ino _ _ (x2 _ _ (y1' _ _ y4))
  refine Lib.run_overlaps_apart w tS tR e (ht _ _ hi).u i.size (ht _ _ he).size ⟨ba, oa, none⟩ ⟨bb, ob, none⟩ la ca lb cb hn ta tb' csa.length csb.length ?_ ?_ ?_ ?_ ?_
  · simp [World.shape?, wa]
  · simp [World.shape?, wb]
  · cases csb with
    | nil => exact absurd rfl hne
    | cons _ _ => simp
  · simp [World.frozen?, wa]
  · simp [World.frozen?, wa]
end
end Go.Proofs.YtkhddfknpegpmaaGreat.SL

/- One element put into a row: what the cells are then. -/
set_option linter.unusedVariables false
set_option linter.unusedSimpArgs false
namespace Go.Proofs.YtkhddfknpegpmaaGreat.SL
theorem Reps.ins {α : Type} {T : Ty α} {h : Heap} {xs : List α} {cs v : List Value} {q : α} (r : Reps T h xs cs) (hq : T.rep h q v) {k : Nat} (hk : k ≤ xs.length) : Reps T h (xs.take k ++ q :: xs.drop k) (cs.take (k * T.size) ++ (v ++ cs.drop (k * T.size))) := by
  have h0 := Reps.split (xs := xs.take k) (ys := xs.drop k) (by rw [List.take_append_drop]; exact r)
  rw [List.length_take, Nat.min_eq_left hk] at h0
  exact h0.1.app ⟨v, _, rfl, hq, h0.2⟩
/-- The element and what is behind it, laid behind what is ahead. -/
theorem ins_cells {n k c s : Nat} {cs cur v : List Value} (hcs : cs.length = n * s) (hv : v.length = s) (hc : cur.length = c * s) (ht : cur.take (k * s) = cs.take (k * s)) (hk : k ≤ n) (hn : n + 1 ≤ c) (o1 o2 : Nat) (h1 : o1 = k * s) (h2 : o2 = (k + 1) * s) :
    (putS o2 (cs.drop (k * s)) (putS o1 v cur)).take ((n + 1) * s) = cs.take (k * s) ++ (v ++ cs.drop (k * s)) ∧ (putS o2 (cs.drop (k * s)) (putS o1 v cur)).length = c * s ∧ o1 + 1 * s ≤ cur.length ∧ o2 + (n - k) * s ≤ (putS o1 v cur).length := by
  subst h1; subst h2
  have hd : (cs.drop (k * s)).length = (n - k) * s := by rw [List.length_drop, hcs, Nat.sub_mul]
  have m1 : (k + 1) * s ≤ c * s := Nat.mul_le_mul_right _ (by omega)
  have m2 : (k + 1) * s + (n - k) * s = (n + 1) * s := by rw [← Nat.add_mul]; congr 1; omega
  have m3 : (n + 1) * s ≤ c * s := Nat.mul_le_mul_right _ hn
  have e1 : (k + 1) * s = k * s + s := by rw [Nat.add_mul, Nat.one_mul]
  have l1 : k * s + v.length ≤ cur.length := by rw [hv, hc]; omega
  have l2 : (k + 1) * s + (cs.drop (k * s)).length ≤ (putS (k * s) v cur).length := by rw [putS_len l1, hd, hc]; omega
  refine ⟨?_, by rw [putS_len l2, putS_len l1, hc], by rw [hc]; omega, by rw [putS_len l1, hc]; omega⟩
  rw [putS_take l2 (by rw [hd]; omega), putS_take l1 (by rw [hv]; omega), ht, List.append_assoc]
/-- The other way round: what is behind first, then the element. -/
theorem ins_cells2 {n k c s : Nat} {cs cur v : List Value} (hcs : cs.length = n * s) (hv : v.length = s) (hc : cur.length = c * s) (ht : cur.take (n * s) = cs) (hk : k ≤ n) (hn : n + 1 ≤ c) (o1 o2 : Nat) (h1 : o1 = k * s) (h2 : o2 = (k + 1) * s) :
    (putS o1 v (putS o2 (cs.drop (k * s)) cur)).take ((n + 1) * s) = cs.take (k * s) ++ (v ++ cs.drop (k * s)) ∧ (putS o1 v (putS o2 (cs.drop (k * s)) cur)).length = c * s ∧ o2 + (n - k) * s ≤ cur.length ∧ o1 + 1 * s ≤ (putS o2 (cs.drop (k * s)) cur).length := by
  subst h1; subst h2
  have hd : (cs.drop (k * s)).length = (n - k) * s := by rw [List.length_drop, hcs, Nat.sub_mul]
  have m1 : (k + 1) * s ≤ c * s := Nat.mul_le_mul_right _ (by omega)
  have m2 : (k + 1) * s + (n - k) * s = (n + 1) * s := by rw [← Nat.add_mul]; congr 1; omega
  have m3 : (n + 1) * s ≤ c * s := Nat.mul_le_mul_right _ hn
  have m4 : k * s ≤ n * s := Nat.mul_le_mul_right _ hk
  have e1 : (k + 1) * s = k * s + s := by rw [Nat.add_mul, Nat.one_mul]
  have l2 : (k + 1) * s + (cs.drop (k * s)).length ≤ cur.length := by rw [hd, hc]; omega
  have l1 : k * s + v.length ≤ (putS ((k + 1) * s) (cs.drop (k * s)) cur).length := by rw [putS_len l2, hv, hc]; omega
  refine ⟨?_, by rw [putS_len l1, putS_len l2, hc], by rw [hc]; omega, by rw [putS_len l2, hc]; omega⟩
  have hA : (putS (k * s) v (putS ((k + 1) * s) (cs.drop (k * s)) cur)).take ((n + 1) * s) = putS (k * s) v ((putS ((k + 1) * s) (cs.drop (k * s)) cur).take ((n + 1) * s)) := putS_take_comm (by rw [hv]; omega) l1
  rw [hA, putS_take l2 (by rw [hd]; omega)]
  unfold putS
  have t1 : (cur.take ((k + 1) * s)).length = (k + 1) * s := by rw [List.length_take, hc]; omega
  rw [List.take_append_of_le_length (by rw [t1]; omega), List.take_take, Nat.min_eq_left (by omega), List.drop_append, t1, hv, List.drop_of_length_le (by rw [t1]; omega), List.nil_append, show k * s + s - (k + 1) * s = 0 from by omega, List.drop_zero, ← ht, List.take_take, Nat.min_eq_left (by omega)]
theorem at_head {Ps : List PA} {Os : List OA} {b e p m n : Nat} {cs cur : List Value} {rr : List OA} (h : Rem (pt b e cur) Os rr) (h2 : cur.take m = cs) (hp : p ≤ cs.length) (hn : p = n) : At Ps Os b 0 n (cs.take p) :=
  at_any h (by rw [List.length_take, Nat.min_eq_left hp, hn]) (fun i v hv => by
    rw [List.getElem?_take] at hv
    split at hv
    · rw [← h2, List.getElem?_take] at hv
      split at hv
      · rw [Nat.zero_add]; exact hv
      · cases hv
    · cases hv)
end Go.Proofs.YtkhddfknpegpmaaGreat.SL

/- More rules: arrays, read atoms said together, an owned list whose elements are only read from then on. -/
set_option linter.unusedVariables false
set_option linter.unusedSimpArgs false
namespace Go.Proofs.YtkhddfknpegpmaaGreat.SL
theorem idxA_val {C : Ctx} {E : Env} {Ps : List PA} {Os : List OA} {o : Oper} {tb : TB} (ht : TOk C.P tb) {t e : TypeId} {x y : Operand} {b oo n : Nat} {kk : IntKind} {j : Int} {s1 : Nat} {a1 : Bool} {z1 : Value} {y1 : Nat} {i : TI} (ho : o.op = .indexAddr t x y)
    (hx : ev E x = some (.pointer (some ⟨b, oo, none⟩))) (hy : ev E y = some (.int kk j)) (hi : lookT tb t = some ⟨.array n e, s1, a1, z1, y1⟩) (he : lookT tb e = some i) (hj : 0 ≤ j ∧ j < n) :
    ∀ a w hp ho, Fits C.N E a → Sat w hp ho Ps Os → (execOp a.eval o).run C.P w = .ok (.value (.pointer (some ⟨b, oo + j.toNat * i.size, none⟩))) w := fun a w hp ho' hf hs => by
  have hu := run_und (ht _ _ hi).u w
  have hs := (ht _ _ he).size w
  simp [execOp, ho, hf.ev hx, hf.ev hy, Instr.indexAt, Instr.sureAddr, asIntOf, hu, hj.1, hj.2, hs, run_addOff]
theorem putL_put : ∀ (n : Nat) (vs l : List Value), n + vs.length ≤ l.length → putL n vs l = some (putS n vs l)
  | 0, [], l, _ => by simp [putL, putS]
  | 0, v :: vs, [], h => by simp at h
  | 0, v :: vs, a :: l, h => by
    simp only [List.length_cons] at h
    simp only [putL, putL_put 0 vs l (by omega)]
    simp [putS]
  | n + 1, vs, [], h => by simp at h
  | n + 1, vs, a :: l, h => by
    simp only [List.length_cons] at h
    simp only [putL, putL_put n vs l (by omega)]
    simp [putS, Nat.add_right_comm n 1]
def PA.all (l : List PA) : PA := ⟨fun h => ∀ p, p ∈ l → p.p h, fun hl h p hp => p.up hl (h p hp)⟩
section
variable {C : Ctx} {k : List It} {E : Env} {Ps : List PA} {Os : List OA}
theorem go_pall {l : List PA} (h : PA.all l ∈ Ps) (g : Go C k E (l ++ Ps) Os) : Go C k E Ps Os := fun a w hp ho hf hs hb =>
  g a w hp ho hf ⟨hs.inp, hs.ino, hs.dj, fun p hp' => (List.mem_append.1 hp').elim (hs.ps _ h p) (hs.ps p), hs.os⟩ hb
theorem go_mkall (l : List PA) (h : Subs Ps l) (g : Go C k E (PA.all l :: Ps) Os) : Go C k E Ps Os := go_ent (PA.all l) (fun hp a p hq => a p (h.mem p hq)) g
/-- A part of what is owned is henceforth only read. -/
theorem go_part (A B : OA) {r : List OA} (h : Rem A Os r) (hi : ∀ hp h1, A.p hp h1 → ∃ ha hb : Heap, ha.le h1 ∧ hb.le h1 ∧ ha.dj hb ∧ ∀ H, hp.le H → hb.le H → B.p H ha) (g : Go C k E Ps (B :: r)) : Go C k E Ps Os := fun a w hp ho hf hs hb => by
  obtain ⟨h1, h2, i, b, c, d, e⟩ := Sep.rem h hs.os
  obtain ⟨ha, hc, la, lc, dac, hB⟩ := hi hp h1 d
  have dj1 : hp.dj hc := Heap.dj_le hs.dj (Heap.le_refl _) (lc.tr i)
  have djA : hp.dj ha := Heap.dj_le hs.dj (Heap.le_refl _) (la.tr i)
  have d12 : (hp.add hc).dj h2 := Heap.add_dj (Heap.dj_le hs.dj (Heap.le_refl _) b) (Heap.dj_le c lc (Heap.le_refl _))
  have dA2 : ha.dj h2 := Heap.dj_le c la (Heap.le_refl _)
  have dpA : (hp.add hc).dj ha := Heap.add_dj djA (Heap.dj_symm dac)
  refine g a w (hp.add hc) (ha.add h2) hf ⟨Heap.add_le hs.inp ((lc.tr i).tr hs.ino), Heap.add_le ((la.tr i).tr hs.ino) (b.tr hs.ino), Heap.dj_symm (Heap.add_dj (Heap.dj_symm dpA) (Heap.dj_symm d12)), fun p hq => p.up (Heap.le_add_left _ _) (hs.ps p hq),
      ha, h2, Heap.le_add_left _ _, Heap.le_add_right dA2, dA2, hB _ (Heap.le_add_left _ _) (Heap.le_add_right dj1), Sep.up (Heap.le_add_left _ _) e⟩
    ⟨hb.hp0.tr (Heap.le_add_left _ _), hb.hf, Heap.dj_symm (Heap.add_dj (Heap.dj_symm hb.djp) (Heap.dj_le (Heap.dj_symm hb.djo) (lc.tr i) (Heap.le_refl _))),
      Heap.dj_symm (Heap.add_dj (Heap.dj_le (Heap.dj_symm hb.djo) (la.tr i) (Heap.le_refl _)) (Heap.dj_le (Heap.dj_symm hb.djo) b (Heap.le_refl _))), hb.rest⟩
theorem go_dl_ol {α : Type} {T : Ty α} {e : Nat} {A : Option Addr} {c : Nat} {xs : List α} {r : List OA} (h : Rem (dl T e A c xs) Os r) (g : Go C k E Ps (ol T e A c xs :: r)) : Go C k E Ps Os :=
  go_part _ (ol T e A c xs) h (fun hp h1 ⟨cs, g1, g2, a, b, d, hr, hs, _⟩ => ⟨g1, g2, a, b, d, fun H _ l2 => ⟨cs, hr, hs.up l2⟩⟩) g
theorem go_bound {φ : Prop} (A : OA) {r : List OA} (h : Rem A Os r) (e : ∀ hp ho, A.p hp ho → φ) (g : φ → Go C k E Ps Os) : Go C k E Ps Os := go_ofact A h e g
end
/-- Cells of a part of a block. -/
theorem at_part {Ps : List PA} {Os : List OA} {b e oo n : Nat} {cur news : List Value} {rr : List OA} (h : Rem (pt b e cur) Os rr) (hl : news.length = n) (hlt : oo + n ≤ cur.length) (h3 : (cur.drop oo).take n = news) : At Ps Os b oo n news :=
  at_any h hl (fun i v hv => by
    rw [← h3, List.getElem?_take] at hv
    split at hv
    · rw [List.getElem?_drop] at hv; exact hv
    · cases hv)
theorem at_one {Ps : List PA} {Os : List OA} {b e oo : Nat} {cur : List Value} {v : Value} {rr : List OA} (h : Rem (pt b e cur) Os rr) (h3 : cur[oo]? = some v) : At Ps Os b oo 1 [v] :=
  at_any h rfl (fun i u hv => by
    cases i with
    | zero => simp at hv; subst hv; simpa using h3
    | succ i => simp at hv)
/-- A contract that only reads a list, where the list is one's own. -/
theorem Spec.ownl {P : Program} {f : FuncId} {args : Array Value} {α : Type} {T : Ty α} {e : Nat} {A : Option Addr} {c : Nat} {xs : List α} {Ps : List PA} {Q : Value → Prop} (s : Spec P f args (sl T A c xs :: Ps) [] (fun v Ps' Os' => Q v ∧ Ps' = [] ∧ Os' = [])) : Spec P f args Ps [ol T e A c xs] (fun v Ps' Os' => Q v ∧ Ps' = [] ∧ Os' = [ol T e A c xs]) :=
  (s.lend (ol T e A c xs) lend_ol (fun v P' O' h => ⟨h.2.1, by rw [h.2.2]; intro B hB; cases hB⟩)).imp fun v P' O' ⟨O2, ⟨h1, _, h3⟩, h4, h5⟩ => ⟨h1, h4, by rw [h5, h3]⟩
theorem fc_int {kk : IntKind} : ∀ (h : Heap) (x : Int) (cs : List Value), (tInt kk).rep h x cs → cs = (fun y : Int => [Value.int kk y]) x := fun _ _ _ h => h
theorem Sl.pre {α : Type} {T : Ty α} {hh : Heap} {A : Option Addr} {c : Nat} {xs : List α} (s : Sl T hh A c xs) (n : Nat) : Sl T hh A c (xs.take n) :=
  ⟨by have := s.1; simp; omega, s.2.1, s.2.2.1, fun j x hj => by
    rw [List.getElem?_take] at hj
    split at hj
    · exact s.2.2.2 j x hj
    · cases hj⟩
theorem Sl.suf {α : Type} {T : Ty α} {hh : Heap} {A : Option Addr} {c : Nat} {xs : List α} (s : Sl T hh A c xs) {n : Nat} (hn : n ≤ xs.length) : Sl T hh (if c = n then A else A.map (·.add (n * T.size))) (c - n) (xs.drop n) := by
  have h1 := s.1
  have := Sl.part s (l := n) (h := xs.length) (m := c) hn h1 (Nat.le_refl _) (Nat.le_refl _)
  rwa [List.take_of_length_le (by simp)] at this
theorem rem_val {C : Ctx} {E : Env} {Ps : List PA} {Os : List OA} {o : Oper} {t t2 : TypeId} {x y : Operand} {kk : IntKind} {a b : Int} (ho : o.op = .binOp .rem t x y t2) (hx : ev E x = some (.int kk a)) (hy : ev E y = some (.int kk b)) (hb : b ≠ 0) :
    ∀ ac w hp ho, Fits C.N E ac → Sat w hp ho Ps Os → (execOp ac.eval o).run C.P w = .ok (.value (.int kk (a.tmod b))) w := fun ac w hp ho' hf hs => by
  have h4 := run_intV (P := C.P) w (op := .rem) (k := kk) (k' := kk) (a := a) (b := b) (v := .int kk (a.tmod b)) (by cases kk <;> rfl) (by simp [intV, hb]) t
  have h1 : (eqGuard .rem t x y (.int kk a) (.int kk b)).run C.P w = .ok () w := by simp [eqGuard]
  simp only [execOp, ho, hf.ev hx, hf.ev hy, Sem.run_bind, h1, h4, Result.andThen_ok, Sem.run_pure]
theorem quo_val {C : Ctx} {E : Env} {Ps : List PA} {Os : List OA} {o : Oper} {t t2 : TypeId} {x y : Operand} {kk : IntKind} {a b : Int} (ho : o.op = .binOp .quo t x y t2) (hx : ev E x = some (.int kk a)) (hy : ev E y = some (.int kk b)) (hb : b ≠ 0) :
    ∀ ac w hp ho, Fits C.N E ac → Sat w hp ho Ps Os → (execOp ac.eval o).run C.P w = .ok (.value (.int kk (kk.wrap (a.tdiv b)))) w := fun ac w hp ho' hf hs => by
  have h4 := run_intV (P := C.P) w (op := .quo) (k := kk) (k' := kk) (a := a) (b := b) (v := .int kk (kk.wrap (a.tdiv b))) (by cases kk <;> rfl) (by simp [intV, hb]) t
  have h1 : (eqGuard .quo t x y (.int kk a) (.int kk b)).run C.P w = .ok () w := by simp [eqGuard]
  simp only [execOp, ho, hf.ev hx, hf.ev hy, Sem.run_bind, h1, h4, Result.andThen_ok, Sem.run_pure]
theorem Spec.less {P : Program} {f : FuncId} {args : Array Value} {Ps Ps' : List PA} {Os : List OA} {Q : Value → List PA → List OA → Prop} (s : Spec P f args Ps Os Q) (h : ∀ q, q ∈ Ps → q ∈ Ps') : Spec P f args Ps' Os Q :=
  ⟨s.fn, fun w hp ho hf hs a b c => s.calls w hp ho hf ⟨hs.inp, hs.ino, hs.dj, fun p hp' => hs.ps p (h p hp'), hs.os⟩ a b c⟩
theorem tmod_cast (a b : Nat) : Int.tmod (a : Int) (b : Int) = ((a % b : Nat) : Int) := by
  rw [Int.tmod_eq_emod_of_nonneg (by omega)]; rfl
theorem at_olp {Ps : List PA} {Os : List OA} {α : Type} {T : Ty α} (fc : α → List Value) (hT : ∀ h x cs, T.rep h x cs → cs = fc x) {e b c n p : Nat} {xs : List α} {x : α} {rr : List OA} {out : List Value} (h : Rem (ol T e (some ⟨b, 0, none⟩) c xs) Os rr) (j : Nat) (hj : xs[j]? = some x) (hp : p = 0 + j * T.size) (ho : takeL n (fc x) = some out) :
    At Ps Os b p n out := by
  subst hp
  exact at_ol fc hT 0 h hj ho
theorem Reps.head {α : Type} {T : Ty α} {h : Heap} {xs : List α} {cs : List Value} (r : Reps T h xs cs) {m : Nat} (hm : m ≤ xs.length) : Reps T h (xs.take m) (cs.take (m * T.size)) := by
  have := (Reps.split (xs := xs.take m) (ys := xs.drop m) (by rw [List.take_append_drop]; exact r)).1
  rwa [List.length_take, Nat.min_eq_left hm] at this
end Go.Proofs.YtkhddfknpegpmaaGreat.SL

/- Rows: how long an argument can be. -/
set_option linter.unusedVariables false
namespace Go.Proofs.YtkhddfknpegpmaaGreat.SL
theorem sized_len {H : Type} {enc : TypeId × Value → H} {P : Program} {W : World} {base : Nat} {sp : Nat → Bool} {hd : Bool} {fuel : Nat} {ts : List TypeId} {ds : List (DataW H)} {j : Nat} {t e : TypeId} {cs : List Value} {x : DataW H × List MemPlace} {A : Option Addr} {n c : Nat}
    (h : (DataW.weightsEach P ts ds).all (· ≤ reachBytes) = true) (ht : ts[j]? = some t) (hd' : ds[j]? = some x.1) (hu : P.underlying t = some (.slice e)) (hx : DataW.trod enc P W base sp hd fuel t cs = some x) (hc : cs = [.slice A n c]) (hb : Nat.ble 1 (P.bytesOf e) = true) : n ≤ 140737488351232 := by
  subst hc
  rcases Deep.open_slice hu hx with ⟨h1, _⟩ | ⟨a, len, cap, m, q, D, Pl, h1, _, _, _, _, rfl, _⟩
  · cases h1; omega
  · cases h1
    have := sized_slice h ht hd' hu
    have hb' := Nat.le_of_ble_eq_true hb
    have h2 : n ≤ n * P.bytesOf e := Nat.le_mul_of_pos_right _ hb'
    simp only [List.length_map, List.length_range] at this
    rw [Nat.add_mul] at this
    have h3 : reachBytes = 140737488351232 := rfl
    omega
end Go.Proofs.YtkhddfknpegpmaaGreat.SL

/- Maps whose keys are whole numbers, owned. -/
set_option linter.unusedVariables false
set_option linter.unusedSimpArgs false
namespace Go.Proofs.YtkhddfknpegpmaaGreat.SL
def kv (e : MapEntry) : Value × Value := (e.key, e.val)
def MapIs (kk : IntKind) (es : List MapEntry) (m : List (Int × Value)) : Prop := es.map kv = m.map fun x => (Value.int kk x.1, x.2)
def mapO (b : Nat) (kk : IntKind) (m : List (Int × Value)) : OA := ⟨fun _ h => ∃ es clock, h b = some (.map es clock) ∧ MapIs kk es.toList m, fun _ q => q⟩
def mget (m : List (Int × Value)) (k : Int) : Option Value := (m.find? fun x => x.1 == k).map (·.2)
def mset (m : List (Int × Value)) (k : Int) (v : Value) : List (Int × Value) := match m.findIdx? (fun x => x.1 == k) with
  | some i => m.modify i fun x => (x.1, v)
  | none => m ++ [(k, v)]
theorem mget_mset (m : List (Int × Value)) (k : Int) (v : Value) (j : Int) : mget (mset m k v) j = if j = k then some v else mget m j := by
  unfold mset
  cases e : m.findIdx? (fun x => x.1 == k) with
  | none =>
    rw [List.findIdx?_eq_none_iff] at e
    unfold mget
    rw [List.find?_append]
    by_cases h : j = k
    · subst h
      have : m.find? (fun x => x.1 == j) = none := by rw [List.find?_eq_none]; intro x hx; simpa using e x hx
      rw [this]; simp
    · rw [if_neg h]
      cases m.find? (fun x => x.1 == j) with
      | none => simp [List.find?_cons, Ne.symm h]
      | some x => simp
  | some i =>
    rw [List.findIdx?_eq_some_iff_getElem] at e
    obtain ⟨hi, h1, h2⟩ := e
    have key : ∀ (m : List (Int × Value)) (i : Nat) (hi : i < m.length), (m[i].1 == k) = true → (∀ j (hj : j < i), (m[j].1 == k) = false) → mget (m.modify i fun x => (x.1, v)) j = if j = k then some v else mget m j := by
      intro m
      induction m with
      | nil => intro i hi; simp at hi
      | cons y m ih =>
        intro i hi h1 h2
        cases i with
        | zero =>
          simp only [List.getElem_cons_zero, beq_iff_eq] at h1
          by_cases h : j = k
          · subst h; simp [mget, List.find?_cons, h1]
          · rw [if_neg h]; simp [mget, List.find?_cons, h1, Ne.symm h]
        | succ i =>
          have h0 := h2 0 (by omega)
          simp only [List.getElem_cons_zero, beq_eq_false_iff_ne, ne_eq] at h0
          have := ih i (by simpa using hi) (by simpa using h1) (fun j hj => by simpa using h2 (j + 1) (by omega))
          simp only [List.modify_succ_cons]
          unfold mget at this ⊢
          simp only [List.find?_cons]
          by_cases hy : (y.1 == j) = true
          · rw [hy]
            have : ¬ j = k := fun c => h0 (by rw [← c]; simpa using hy)
            simp [this]
          · rw [show (y.1 == j) = false by simpa using hy]; exact this
    exact key m i hi h1 (fun j hj => by simpa using h2 j hj)
theorem mget_nil (k : Int) : mget [] k = none := rfl
theorem find_now (q kk : IntKind) (k : Int) : ∀ (es : List MapEntry) (m : List (Int × Value)) (i : Nat), MapIs kk es m → Instr.findNow (.int q) (.int kk k) es i = some (match m.findIdx? (fun x => x.1 == k) with
    | none => none
    | some j => some (i + j, (m[j]?.map (·.2)).getD undef))
  | [], m, i, h => by
    have : m = [] := by simpa [MapIs] using h.symm
    subst this; rfl
  | e :: es, [], i, h => by simp [MapIs] at h
  | e :: es, (k', v) :: m, i, h => by
    simp only [MapIs, List.map_cons, List.cons.injEq, kv, Prod.mk.injEq] at h
    obtain ⟨⟨h1, h2⟩, h3⟩ := h
    unfold Instr.findNow
    rw [h1]
    simp only [Instr.sameNow, if_true]
    by_cases hk : k = k'
    · subst hk
      simp [List.findIdx?_cons, h2]
    · have hk' : (k == k') = false := by simpa using hk
      have hk2 : (k' == k) = false := by simpa using Ne.symm hk
      rw [hk']
      simp only
      rw [find_now q kk k es m (i + 1) h3, List.findIdx?_cons, hk2]
      cases m.findIdx? (fun x => x.1 == k) with
      | none => rfl
      | some j => simp; omega
theorem mget_idx {m : List (Int × Value)} {k : Int} : mget m k = (m.findIdx? (fun x => x.1 == k)).bind fun j => m[j]?.map (·.2) := by
  unfold mget
  induction m with
  | nil => rfl
  | cons y m ih =>
    simp only [List.find?_cons, List.findIdx?_cons]
    by_cases h : (y.1 == k) = true
    · simp [h]
    · rw [show (y.1 == k) = false by simpa using h]
      rw [ih]
      cases m.findIdx? (fun x => x.1 == k) <;> simp
section
variable {C : Ctx} {k : List It} {E : Env} {Ps : List PA} {Os : List OA}
variable {o : Oper} {ops : Array Oper} {S : World → Prop} {r : Pl} {f : Bool}
theorem run_ckI {P : Program} {kt : TypeId} {q kk : IntKind} {n : Int} {b : Bool} (w : World) (hk : (underlying kt).run P w = .ok (.int q) w) : (Instr.checkKey b 10000 kt (.int kk n)).run P w = .ok () w := by
  have : ∀ m, (Instr.checkKey b (m + 1) kt (.int kk n)).run P w = .ok () w := fun m => by
    simp only [Instr.checkKey, Sem.run_bind, hk, Result.andThen_ok]; rfl
  exact this 9999
theorem run_lookupI {P : Program} {tb : TB} (ht : TOk P tb) (w : World) {t kt et : TypeId} {q kk : IntKind} {s1 : Nat} {a1 : Bool} {z1 : Value} {y1 : Nat} {s2 : Nat} {a2 : Bool} {z2 : Value} {y2 : Nat} {i : TI} {b : Nat} {es : Array MapEntry} {clock : Nat} {m : List (Int × Value)} {n : Int} {c : Bool}
    (h1 : lookT tb t = some ⟨.map kt et, s1, a1, z1, y1⟩) (h2 : lookT tb kt = some ⟨.int q, s2, a2, z2, y2⟩) (h3 : lookT tb et = some i) (hb : w.heap[b]? = some (.map es clock)) (hm : MapIs kk es.toList m) :
    (Instr.lookup t (.map (some b)) (.int kk n) c).run P w = .ok (if c then .tuple #[(mget m n).getD i.zero, .bool (mget m n).isSome] else (mget m n).getD i.zero) w := by
  have hu := run_und (ht _ _ h1).u w
  have hk := run_und (ht _ _ h2).u w
  have hz := (ht _ _ h3).zero w
  have hg := MapKept.run_getObj_map (P := P) hb
  have hf := find_now q kk n es.toList m 0 hm
  have hck : (Instr.checkKey es.isEmpty 10000 kt (.int kk n)).run P w = .ok () w := by
    exact run_ckI w hk
  have hfk : (Instr.findKey kt (.int kk n) es.toList).run P w = .ok (match m.findIdx? (fun x => x.1 == n) with | none => none | some j => some (0 + j, (m[j]?.map (·.2)).getD undef)) w := by
    simp [Instr.findKey, hk, hf]
  simp only [Instr.lookup, Sem.run_bind, hu, Result.andThen_ok, hg, Sem.run_pure, hck, hfk]
  rw [mget_idx]
  cases e : m.findIdx? (fun x => x.1 == n) with
  | none => cases c <;> simp [hz]
  | some j =>
    rw [List.findIdx?_eq_some_iff_getElem] at e
    obtain ⟨hj, _, _⟩ := e
    cases c <;> simp [List.getElem?_eq_getElem hj]
/-- v := m[k] (and v, ok := m[k]) of a map of one's own. -/
theorem lookup_val {tb : TB} (ht : TOk C.P tb) {t kt et : TypeId} {x y : Operand} {q kk : IntKind} {s1 : Nat} {a1 : Bool} {z1 : Value} {y1 : Nat} {s2 : Nat} {a2 : Bool} {z2 : Value} {y2 : Nat} {i : TI} {b : Nat} {m : List (Int × Value)} {n : Int} {c : Bool} {rr : List OA} {v : Value}
    (ho : o.op = .lookup t x y c) (hx : ev E x = some (.map (some b))) (hy : ev E y = some (.int kk n)) (h1 : lookT tb t = some ⟨.map kt et, s1, a1, z1, y1⟩) (h2 : lookT tb kt = some ⟨.int q, s2, a2, z2, y2⟩) (h3 : lookT tb et = some i) (hr : Rem (mapO b kk m) Os rr)
    (hv : (if c then Value.tuple #[(mget m n).getD i.zero, .bool (mget m n).isSome] else (mget m n).getD i.zero) = v) :
    ∀ a w hp ho, Fits C.N E a → Sat w hp ho Ps Os → (execOp a.eval o).run C.P w = .ok (.value v) w := fun a w hp ho' hf hs => by
  subst hv
  obtain ⟨g1, la, es, clock, hb, hm⟩ := hr.sep hs.os
  have hbw : w.heap[b]? = some (.map es clock) := hs.ino _ _ (la _ _ hb)
  have := run_lookupI ht w (n := n) (c := c) h1 h2 h3 hbw hm
  simp [execOp, ho, hf.ev hx, hf.ev hy, this]
theorem go_makemap {t : TypeId} {kk : IntKind} (ho : o.op = .makeMap t none) (hw : wants ops E o = some true) (hd : okDst C.N o.dst = true)
    (hS : f = true → ∀ b w hp ho, Sat w hp ho Ps (mapO b kk [] :: Os) → S w)
    (g : ∀ b, Go C (.ops ops S r :: k) (setE o.dst (.map (some b)) E) Ps (mapO b kk [] :: Os)) : Go C (.ops ops S (.one 0 f o r) :: k) E Ps Os :=
  go_eff (fun b => .map (some b)) (fun _ => Ps) (fun b => mapO b kk [] :: Os) hw hd (fun a w hp ho' hf hs hb => by
    obtain ⟨ho2, h1, h2⟩ := sat_alloc hs hb (mapO w.heap.size kk []) (.map #[] 0) (fun h e => ⟨#[], 0, e, rfl⟩)
    refine ⟨w.heap.size, _, hp, ho2, ?_, h1, h2⟩
    simp [execOp, ho, Instr.makeMap, newObj, Sem.run]) hS g
/-- An owned object changed whole. -/
theorem sat_obj {w : World} {hp ho : Heap} {b : Nat} {new : Obj} {A B : OA} {rr : List OA} (h : Rem A Os rr) (hA : ∀ hp g, A.p hp g → ∃ o, g b = some o) (hB : ∀ (hp g : Heap), g b = some new → B.p hp g) (hs : Sat w hp ho Ps Os) (hb : Base C w hp ho) :
    ∃ ho', Sat { w with heap := w.heap.setIfInBounds b new } hp ho' Ps (B :: rr) ∧ Base C { w with heap := w.heap.setIfInBounds b new } hp ho' := by
  obtain ⟨h1, h2, a1, b1, c1, d0, e1⟩ := Sep.rem h hs.os
  obtain ⟨old, d1⟩ := hA _ _ d0
  have hbo := a1 _ _ d1
  have hbw := hs.ino _ _ hbo
  have hlt : b < w.heap.size := (Array.getElem?_eq_some_iff.1 hbw).1
  have other : ∀ h : Heap, h.le (hpOf w) → h b = none → h.le (hpOf { w with heap := w.heap.setIfInBounds b new }) := fun h hl hn x u e => by
    have hx : x ≠ b := fun q => by subst q; rw [hn] at e; cases e
    have := hl _ _ e
    simp only [hpOf] at this ⊢
    rw [Array.getElem?_setIfInBounds_ne (Ne.symm hx)]
    exact this
  have n2 : h2 b = none := by rcases c1 b with q | q; · rw [d1] at q; cases q
                              · exact q
  have np : hp b = none := by rcases hs.dj b with q | q; · exact q
                              · rw [hbo] at q; cases q
  have nf : C.hf b = none := by rcases hb.djo b with q | q; · exact q
                                · rw [hbo] at q; cases q
  have nw : (Heap.one b new).le (hpOf { w with heap := w.heap.setIfInBounds b new }) := Heap.one_le (by simp [hpOf, hlt])
  have dd : (Heap.one b new).dj h2 := Heap.one_dj n2
  refine ⟨(Heap.one b new).add h2, ⟨other hp hs.inp np, Heap.add_le nw (other h2 (b1.tr hs.ino) n2), Heap.dj_symm (Heap.add_dj (Heap.one_dj np) (Heap.dj_symm (Heap.dj_le hs.dj (Heap.le_refl _) b1))), hs.ps,
    _, h2, Heap.le_add_left _ _, Heap.le_add_right dd, dd, hB _ _ (by simp [Heap.one]), e1⟩, hb.hp0, other _ hb.hf nf, hb.djp,
    Heap.dj_symm (Heap.add_dj (Heap.one_dj nf) (Heap.dj_symm (Heap.dj_le hb.djo (Heap.le_refl _) b1))), hb.rest.os, hb.rest.tape, hb.rest.output, hb.rest.drawn, ?_⟩
  have := hb.rest.size
  simpa using this
theorem run_msetI {P : Program} {tb : TB} (ht : TOk P tb) (w : World) {t kt et : TypeId} {q kk : IntKind} {s1 : Nat} {a1 : Bool} {z1 : Value} {y1 : Nat} {s2 : Nat} {a2 : Bool} {z2 : Value} {y2 : Nat} {b : Nat} {es : Array MapEntry} {clock : Nat} {m : List (Int × Value)} {n : Int} {v : Value}
    (h1 : lookT tb t = some ⟨.map kt et, s1, a1, z1, y1⟩) (h2 : lookT tb kt = some ⟨.int q, s2, a2, z2, y2⟩) (hb : w.heap[b]? = some (.map es clock)) (hm : MapIs kk es.toList m) :
    ∃ es' clock', (Instr.mapUpdate t (.map (some b)) (.int kk n) v).run P w = .ok () { w with heap := w.heap.setIfInBounds b (.map es' clock') } ∧ MapIs kk es'.toList (mset m n v) := by
  have hu := run_und (ht _ _ h1).u w
  have hk := run_und (ht _ _ h2).u w
  have hg := MapKept.run_getObj_map (P := P) hb
  have hf := find_now q kk n es.toList m 0 hm
  have hck : (Instr.checkKey false 10000 kt (.int kk n)).run P w = .ok () w := by
    exact run_ckI w hk
  have hfk : (Instr.findKey kt (.int kk n) es.toList).run P w = .ok (match m.findIdx? (fun x => x.1 == n) with | none => none | some j => some (0 + j, (m[j]?.map (·.2)).getD undef)) w := by
    simp [Instr.findKey, hk, hf]
  unfold mset
  cases e : m.findIdx? (fun x => x.1 == n) with
  | none =>
    rw [e] at hfk
    refine ⟨es.push { key := .int kk n, val := v, born := clock }, clock + 1, ?_, ?_⟩
    · simp only [Instr.mapUpdate, Sem.run_bind, hu, Result.andThen_ok, hg, hck, hfk, MapKept.run_setObj_map _ hb]
    · simp only [MapIs, Array.toList_push, List.map_append, List.map_cons, List.map_nil, kv]
      rw [hm]
  | some j =>
    rw [e] at hfk
    rw [List.findIdx?_eq_some_iff_getElem] at e
    obtain ⟨hj, hjk, _⟩ := e
    have hlen : es.toList.length = m.length := by have := congrArg List.length hm; simpa using this
    have hje : j < es.size := by rw [← Array.length_toList, hlen]; exact hj
    have hkey : es[j].key = .int kk n := by
      have h3 : (es.toList.map kv)[j]? = (m.map fun x => (Value.int kk x.1, x.2))[j]? := by rw [hm]
      rw [List.getElem?_map, List.getElem?_map, List.getElem?_eq_getElem hj, Array.getElem?_toList, Array.getElem?_eq_getElem hje] at h3
      simp only [Option.map_some, Option.some.injEq, kv, Prod.mk.injEq] at h3
      rw [h3.1]
      simp only [beq_iff_eq] at hjk
      rw [hjk]
    have hst : (Instr.keyThatStays (((es[0 + j]?).map (·.key)).getD (.int kk n)) (.int kk n)).run P w = .ok (.int kk n) w := by
      rw [Nat.zero_add, Array.getElem?_eq_getElem hje]
      simp [Instr.keyThatStays, hkey, Instr.sameBits]
    refine ⟨es.modify (0 + j) fun e => { e with key := .int kk n, val := v }, clock, ?_, ?_⟩
    · simp only [Instr.mapUpdate, Sem.run_bind, hu, Result.andThen_ok, hg, hck, hfk, hst, MapKept.run_setObj_map _ hb]
    · unfold MapIs
      apply List.ext_getElem?
      intro i
      have h3 : (es.toList.map kv)[i]? = (m.map fun x => (Value.int kk x.1, x.2))[i]? := by rw [hm]
      rw [List.getElem?_map, List.getElem?_map] at h3
      rw [List.getElem?_map, List.getElem?_map, Array.getElem?_toList, Array.getElem?_modify, List.getElem?_modify, Nat.zero_add]
      by_cases hij : j = i
      · subst hij
        simp only [beq_iff_eq] at hjk
        simp [Array.getElem?_eq_getElem hje, List.getElem?_eq_getElem hj, kv, hjk]
      · rw [Array.getElem?_toList] at h3
        simp only [if_neg hij, Option.map_id, id]
        simpa using h3
/-- m[k] = v of a map of one's own. -/
theorem go_mset {tb : TB} (ht : TOk C.P tb) {t kt et : TypeId} {x y z : Operand} {q kk : IntKind} {s1 : Nat} {a1 : Bool} {z1 : Value} {y1 : Nat} {s2 : Nat} {a2 : Bool} {z2 : Value} {y2 : Nat} {b : Nat} {m : List (Int × Value)} {n : Int} {v : Value} {rr : List OA}
    (ho : o.op = .mapUpdate t x y z) (hw : wants ops E o = some true) (hx : ev E x = some (.map (some b))) (hy : ev E y = some (.int kk n)) (hz : ev E z = some v) (h1 : lookT tb t = some ⟨.map kt et, s1, a1, z1, y1⟩) (h2 : lookT tb kt = some ⟨.int q, s2, a2, z2, y2⟩) (hd : okDst C.N o.dst = true)
    (hr : Rem (mapO b kk m) Os rr) (hS : f = true → ∀ w hp ho, Sat w hp ho Ps (mapO b kk (mset m n v) :: rr) → S w)
    (g : Go C (.ops ops S r :: k) (setE o.dst undef E) Ps (mapO b kk (mset m n v) :: rr)) : Go C (.ops ops S (.one 0 f o r) :: k) E Ps Os :=
  go_effU Ps (mapO b kk (mset m n v) :: rr) hw hd (fun a w hp ho' hf hs hb => by
    obtain ⟨g1, la, es, clock, hbb, hm⟩ := hr.sep hs.os
    have hbw : w.heap[b]? = some (.map es clock) := hs.ino _ _ (la _ _ hbb)
    obtain ⟨es', clock', hrun, hm'⟩ := run_msetI ht w (n := n) (v := v) h1 h2 hbw hm
    obtain ⟨ho2, q1, q2⟩ := sat_obj (C := C) (new := .map es' clock') (B := mapO b kk (mset m n v)) hr (fun hp g ⟨es, clock, e, _⟩ => ⟨_, e⟩) (fun hp g e => ⟨es', clock', e, hm'⟩) hs hb
    exact ⟨_, hp, ho2, by simp [execOp, ho, hf.ev hx, hf.ev hy, hf.ev hz, hrun], q1, q2⟩) hS g
end
end Go.Proofs.YtkhddfknpegpmaaGreat.SL

/- Ranging over a function, the body may leave it by a return. -/
set_option linter.unusedVariables false
set_option linter.unusedSimpArgs false
namespace Go.Proofs.YtkhddfknpegpmaaGreat.SL
/-- A loop's yield that may say 'no more'. -/
structure YldS (P : Program) (l : Nat) {α : Type} (enc : α → Value) (Px : List α → α → List PA) (R St : List α → OA) : Prop where
  go : ∀ (pre : List α) (x : α) (w : World) (hp ho hf : Heap), Sat w hp ho (Px pre x) [R pre] → hf.le (hpOf w) → hf.dj hp → hf.dj ho →
    ∃ fn tmps assign body, (Instr.yield l #[enc x]).run P w = .ok (.round l fn tmps assign body) w ∧
      RoundIn Fence.wide 0 P l fn tmps assign body w (fun e w' => ∃ hp' ho' b, e = .returned (.bool b) ∧ Sat w' hp' ho' [] [cond b (R (pre ++ [x])) (St (pre ++ [x]))] ∧ hp.le hp' ∧ hf.le (hpOf w') ∧ hf.dj hp' ∧ hf.dj ho' ∧ Rest w w')
section
variable {C : Ctx} {k : List It} {E : Env} {Ps : List PA} {Os : List OA}
variable {o : Oper} {ops : Array Oper} {S : World → Prop} {r : Pl} {f : Bool}
theorem go_yieldS {α : Type} {enc : α → Value} {Px : List α → α → List PA} {R St : List α → OA} {l : Nat} (hy : YldS C.P l enc Px R St) (pre : List α) (x : α) {fx ax : Operand} {tys : Array TypeId} {rr : List OA} (ho : o.op = .call ⟨.value fx, #[ax], tys⟩) (hw : wants ops E o = some true)
    (hfx : ev E fx = some (.func (.yield l) #[] #[])) (hax : ev E ax = some (enc x)) (hd : okDst C.N o.dst = true) (hP : Subs Ps (Px pre x)) (hO : Takes Os [R pre] rr)
    (g : ∀ b, Go C (.ops ops S r :: k) (setE o.dst (.bool b) E) Ps (cond b (R (pre ++ [x])) (St (pre ++ [x])) :: rr)) : Go C (.ops ops S (.yld o r) :: k) E Ps Os := fun a w hp ho' hf hs hb => by
  show rwp _ _ _ _ _ _ _
  rw [rwp, if_pos (wants_eq hf hw)]
  obtain ⟨h1, h2, a1, b1, c1, d1, e1⟩ := Sep.takes hO hs.os
  obtain ⟨fn, tmps, assign, body, hrun, hround⟩ := hy.go pre x w hp h1 (C.hf.add h2) ⟨hs.inp, a1.tr hs.ino, Heap.dj_le hs.dj (Heap.le_refl _) a1, (hs.ents hP.ents).ps, d1⟩ (Heap.add_le hb.hf (b1.tr hs.ino))
    (Heap.add_dj hb.djp (Heap.dj_symm (Heap.dj_le hs.dj (Heap.le_refl _) b1))) (Heap.add_dj (Heap.dj_le hb.djo (Heap.le_refl _) a1) (Heap.dj_symm c1))
  have hex : (execOp a.eval o).run C.P w = .ok (.round l fn tmps assign body) w := by
    simp [execOp, ho, resolve, hf.ev hfx, hf.ev hax, Deferred.ofValue, invoke, hrun]
  refine ⟨fun _ _ => trivial, ?_⟩
  rw [show Fence.wide.round = none from rfl, Oper.semAt_none, hex, Oper.uponIn_round]
  refine ⟨fun h => by simp [Fence.wide] at h, hround.mono ?_⟩
  rintro e w' ⟨hp', ho2, b, rfl, hs', hle, hfl, djp, djo, hrest⟩
  have dfo : C.hf.dj h2 := Heap.dj_le hb.djo (Heap.le_refl _) b1
  have l2 : h2.le (C.hf.add h2) := Heap.le_add_right dfo
  have dA : ho2.dj h2 := Heap.dj_symm (Heap.dj_le djo l2 (Heap.le_refl _))
  have dB : hp'.dj h2 := Heap.dj_symm (Heap.dj_le djp l2 (Heap.le_refl _))
  have sat : Sat w' hp' (ho2.add h2) Ps ([cond b (R (pre ++ [x])) (St (pre ++ [x]))] ++ rr) := ⟨hs'.inp, Heap.add_le hs'.ino (l2.tr hfl), Heap.dj_symm (Heap.add_dj (Heap.dj_symm hs'.dj) (Heap.dj_symm dB)),
    fun p hp0 => p.up hle (hs.ps p hp0), Sep.app (Heap.le_add_left _ _) (Heap.le_add_right dA) dA hs'.os (Sep.up hle e1)⟩
  have base : Base C w' hp' (ho2.add h2) := ⟨hb.hp0.tr hle, (Heap.le_add_left _ _).tr hfl, Heap.dj_le djp (Heap.le_add_left _ _) (Heap.le_refl _),
    Heap.dj_symm (Heap.add_dj (Heap.dj_symm (Heap.dj_le djo (Heap.le_add_left _ _) (Heap.le_refl _))) (Heap.dj_symm dfo)), hb.rest.trans hrest⟩
  exact g b _ w' hp' _ (hf.put hd (.bool b)) sat base
theorem go_yield2 {α : Type} {enc : α → Value} {Px : List α → α → List PA} {R St : List α → OA} {l : Nat} (hy : YldS C.P l enc Px R St) (pre : List α) (x : α) {fx ax : Operand} {tys : Array TypeId} {rr : List OA} (ho : o.op = .call ⟨.value fx, #[ax], tys⟩) (hw : wants ops E o = some true)
    (hfx : ev E fx = some (.func (.yield l) #[] #[])) (hax : ev E ax = some (enc x)) (hd : okDst C.N o.dst = true) (hP : Subs Ps (Px pre x)) (hO : Takes Os [R pre] rr)
    (g1 : Go C (.ops ops S r :: k) (setE o.dst (.bool true) E) Ps (R (pre ++ [x]) :: rr)) (g2 : Go C (.ops ops S r :: k) (setE o.dst (.bool false) E) Ps (St (pre ++ [x]) :: rr)) : Go C (.ops ops S (.yld o r) :: k) E Ps Os :=
  go_yieldS hy pre x ho hw hfx hax hd hP hO fun b => by cases b; exact g2; exact g1
end
/-- Where a round's return leads. -/
def stopB (P : Program) (n l : Nat) (w0 : World) (hp0 hf : Heap) (Os' : List OA) : Act → World → Prop := fun _ w => ∃ hp ho, Sat w hp ho [] Os' ∧ Base (rc P n l w0 hp0 hf) w hp ho
def stopF (B : Act → World → Prop) : Exit → Act → World → Prop
  | .ret => B
  | _ => fun _ _ => False
def rcS (P : Program) (n l : Nat) (w0 : World) (hp0 hf : Heap) (Os' : List OA) : Ctx := ⟨P, default, ⟨n, []⟩, some l, w0, hp0, hf, fun _ _ _ => False, stopF (stopB P n l w0 hp0 hf Os'), fun _ _ _ h => h, fun _ _ h => h⟩
section
variable {C : Ctx} {k : List It} {E : Env} {Ps : List PA} {Os : List OA}
theorem go_stop {P : Program} {n l : Nat} {w0 : World} {hp0 hf0 : Heap} {Os' r : List OA} (hO : Takes Os Os' r) : Go (rcS P n l w0 hp0 hf0 Os') (.code .ret :: k) E Ps Os := fun a w hp ho hf hs hb =>
  wpIn_ret (by
    show den (some l) P (stopF (stopB P n l w0 hp0 hf0 Os')) k .ret a w
    rw [den_ret]
    obtain ⟨h1, h2, a1, b1, c1, d1, e1⟩ := Sep.takes hO hs.os
    exact ⟨hp, h1, ⟨hs.inp, a1.tr hs.ino, Heap.dj_le hs.dj (Heap.le_refl _) a1, (fun _ h => nomatch h), d1⟩, hb.hp0, hb.hf, hb.djp, Heap.dj_le hb.djo (Heap.le_refl _) a1, hb.rest⟩)
theorem roundsS {P : Program} {n l t : Nat} {α : Type} {enc : α → Value} {Px : List α → α → List PA} {assign body : Code} {tmps : Array Value} {fn : FuncId} {D : Nat} (O Ox : List α → List OA) (hN : tmps.size = n) (ht : Nat.blt t n = true) (hE : ∀ d v, look E d = some v → tmps[d]? = some v)
    {X : Type} (chg : X → Env) (rest : Env) (O1 : List α → α → X → List OA) (J : List α → α → X → Prop)
    (ha : ∀ pre x w0 hp0 hf0, Go (rc P n l w0 hp0 hf0) [.code assign, .back (Bk (rc P n l w0 hp0 hf0) chg rest (fun _ => Px pre x ++ Ps) (O1 pre x) (J pre x) (fun _ => 0) 1)] ((t, enc x) :: E) (Px pre x ++ Ps) (O pre))
    (hb : ∀ pre x y, J pre x y → ∀ w0 hp0 hf0, Go (rcS P n l w0 hp0 hf0 (Ox (pre ++ [x]))) [.code body, .back (Bk (rcS P n l w0 hp0 hf0 (Ox (pre ++ [x]))) (fun _ : Unit => []) [] (fun _ => Ps) (fun _ => O (pre ++ [x])) (fun _ => True) (fun _ => 0) 1)] (chg y ++ rest) (Px pre x ++ Ps) (O1 pre x y)) :
    YldS P l enc Px (fun pre => loopA Ps l { state := .ready, pending := none, fn, tmps, params := #[t], assign, body, defers := D } (O pre)) (fun pre => loopA Ps l { state := .done, pending := some .ret, fn, tmps, params := #[t], assign, body, defers := D } (Ox pre)) := ⟨fun pre x w hp ho hf hs hfw d1 d2 => by
  generalize hrec : ({ state := .ready, pending := none, fn, tmps, params := #[t], assign, body, defers := D } : Loop) = rec at *
  obtain ⟨g1, _, la, _, _, ⟨hps, h2, lb, lr, dr, sO⟩, _⟩ := hs.os
  have lro : (Heap.one l (.loop rec)).le ho := lr.tr la
  have hl : w.heap[l]? = some (.loop rec) := hs.ino _ _ (lro _ _ (one_at _ _))
  have hyr := run_yield (P := P) (args := #[enc x]) hl (by rw [← hrec]; rfl)
  refine ⟨_, _, _, _, hyr, ?_⟩
  have dfr : hf.dj (Heap.one l (.loop rec)) := Heap.dj_le d2 (Heap.le_refl _) lro
  have dpr : hp.dj (Heap.one l (.loop rec)) := Heap.dj_le hs.dj (Heap.le_refl _) lro
  have lO : h2.le ho := lb.tr la
  have fl : hf l = none := by
    rcases dfr l with q | q
    · exact q
    · rw [one_at] at q; cases q
  refine roundIn_of_wpIn (F := Fence.wide) (n := 0) trivial ?_
  have hfit : Fits ⟨n, []⟩ ((t, enc x) :: E) { tmps := (rec.params.zip #[enc x]).foldl (fun tmps (t, a) => tmps.setIfInBounds t a) rec.tmps, defers := [] } := by
    have hz : (rec.params.zip #[enc x]).foldl (fun tmps (t, a) => tmps.setIfInBounds t a) rec.tmps = tmps.setIfInBounds t (enc x) := by rw [← hrec]; simp
    rw [hz]
    refine ⟨by simp [hN], rfl, fun d v e => ?_⟩
    simp only [look] at e
    have htl : t < tmps.size := by rw [hN]; exact Nat.le_of_ble_eq_true ht
    show (tmps.setIfInBounds t (enc x))[d]? = some v
    cases hbq : Nat.beq t d with
    | true =>
      rw [hbq] at e
      simp at e
      subst e
      rw [← Nat.eq_of_beq_eq_true hbq]
      simp [htl]
    | false =>
      rw [hbq] at e
      have hne : t ≠ d := fun q => by subst q; rw [Nat.beq_refl] at hbq; cases hbq
      rw [Array.getElem?_setIfInBounds_ne hne]
      exact hE d v e
  have hpx : ∀ p, p ∈ Px pre x ++ Ps → p.p hp := fun p hm => by
    rcases List.mem_append.1 hm with q | q
    · exact hs.ps p q
    · exact hps p q
  have sat1 : Sat w hp h2 (Px pre x ++ Ps) (O pre) := ⟨hs.inp, lO.tr hs.ino, Heap.dj_le hs.dj (Heap.le_refl _) lO, hpx, sO⟩
  have hfr : (hf.add (Heap.one l (.loop rec))).le (hpOf w) := Heap.add_le hfw (lro.tr hs.ino)
  have base1 : Base (rc P n l w hp (hf.add (Heap.one l (.loop rec)))) w hp h2 := ⟨Heap.le_refl _, hfr, Heap.add_dj d1 (Heap.dj_symm dpr), Heap.add_dj (Heap.dj_le d2 (Heap.le_refl _) lO) dr, .refl _⟩
  have step1 := ha pre x w hp (hf.add (Heap.one l (.loop rec))) _ w hp h2 hfit sat1 base1
  rw [show rec.assign = assign from by rw [← hrec], show rec.body = body from by rw [← hrec]]
  refine wpIn_mono (show assign.wpIn (Fence.wide.inRound l) 0 P _ _ w from step1) fun e a1 w1 q => ?_
  cases e with
  | normal =>
    obtain ⟨y, hp1, ho1, f1, s1, b1, j1, _⟩ := q
    have hl1 : w1.heap[l]? = some (.loop rec) := b1.hf _ _ (Heap.le_add_right dfr _ _ (one_at _ _))
    refine ⟨_, run_beginRound hl1 (by rw [← hrec]), ?_⟩
    have r1 : (Heap.one l (.loop rec)).dj hp1 := Heap.dj_le b1.djp (Heap.le_add_right dfr) (Heap.le_refl _)
    have r2 : (Heap.one l (.loop rec)).dj ho1 := Heap.dj_le b1.djo (Heap.le_add_right dfr) (Heap.le_refl _)
    have r3 : hf.dj hp1 := Heap.dj_le b1.djp (Heap.le_add_left _ _) (Heap.le_refl _)
    have r4 : hf.dj ho1 := Heap.dj_le b1.djo (Heap.le_add_left _ _) (Heap.le_refl _)
    have dfb : ∀ o', hf.dj (Heap.one l o') := fun o' => Heap.dj_symm (dj_one (Heap.dj_symm dfr))
    have step2 := hb pre x y j1 (w1.putObj l (.loop { rec with state := .busy })) hp1 (hf.add (Heap.one l (.loop { rec with state := .busy }))) a1 _ hp1 ho1 f1
      ⟨put_le s1.inp (dj_at r1 (one_at _ _)), put_le s1.ino (dj_at r2 (one_at _ _)), s1.dj, s1.ps, s1.os⟩
      ⟨Heap.le_refl _, Heap.add_le (put_le ((Heap.le_add_left _ _).tr b1.hf) fl) (put_one hl1), Heap.add_dj r3 (dj_one r1), Heap.add_dj r4 (dj_one r2), .refl _⟩
    refine wpIn_mono (show body.wpIn (Fence.wide.inRound l) 0 P _ _ _ from step2) fun e2 a2 w3 q2 => ?_
    cases e2 with
    | normal =>
      obtain ⟨_, hp3, ho3, f3, s3, b3, _, _⟩ := q2
      have hl3 : w3.heap[l]? = some (.loop { rec with state := .busy }) := b3.hf _ _ (Heap.le_add_right (dfb _) _ _ (one_at _ _))
      have he := run_endRound (P := P) none hl3
      have hrr : ({ { rec with state := LoopState.busy } with state := if (none : Option Code).isNone then LoopState.ready else LoopState.done, pending := none } : Loop) = rec := by rw [← hrec]; rfl
      rw [hrr] at he
      refine ⟨_, _, he, ?_⟩
      have t1 : (Heap.one l (.loop { rec with state := .busy })).dj hp3 := Heap.dj_le b3.djp (Heap.le_add_right (dfb _)) (Heap.le_refl _)
      have t2 : (Heap.one l (.loop { rec with state := .busy })).dj ho3 := Heap.dj_le b3.djo (Heap.le_add_right (dfb _)) (Heap.le_refl _)
      have t3 : hf.dj hp3 := Heap.dj_le b3.djp (Heap.le_add_left _ _) (Heap.le_refl _)
      have t4 : hf.dj ho3 := Heap.dj_le b3.djo (Heap.le_add_left _ _) (Heap.le_refl _)
      have dN : (Heap.one l (.loop rec)).dj ho3 := dj_one t2
      refine ⟨hp3, (Heap.one l (.loop rec)).add ho3, true, rfl, ⟨put_le s3.inp (dj_at t1 (one_at _ _)), Heap.add_le (put_one hl3) (put_le s3.ino (dj_at t2 (one_at _ _))), Heap.dj_symm (Heap.add_dj (dj_one t1) (Heap.dj_symm s3.dj)), (fun _ h => nomatch h),
          sep_one ⟨s3.ps, ho3, Heap.le_add_right dN, Heap.le_add_left _ _, dN, s3.os⟩⟩, b1.hp0.tr b3.hp0, put_le ((Heap.le_add_left _ _).tr b3.hf) fl, t3, Heap.dj_symm (Heap.add_dj (Heap.dj_symm (dfb _)) (Heap.dj_symm t4)),
          (b1.rest.trans put_rest).trans (b3.rest.trans put_rest)⟩
    | ret =>
      obtain ⟨hp3, ho3, s3, b3⟩ := q2
      have hl3 : w3.heap[l]? = some (.loop { rec with state := .busy }) := b3.hf _ _ (Heap.le_add_right (dfb _) _ _ (one_at _ _))
      have he := run_endRound (P := P) (some Code.ret) hl3
      generalize hrs : ({ { rec with state := LoopState.busy } with state := if (some Code.ret).isNone then LoopState.ready else LoopState.done, pending := some Code.ret } : Loop) = recS at he
      have hrS : ({ state := .done, pending := some .ret, fn, tmps, params := #[t], assign, body, defers := D } : Loop) = recS := by rw [← hrs, ← hrec]; rfl
      rw [hrS]
      refine ⟨_, _, he, ?_⟩
      have t1 : (Heap.one l (.loop { rec with state := .busy })).dj hp3 := Heap.dj_le b3.djp (Heap.le_add_right (dfb _)) (Heap.le_refl _)
      have t2 : (Heap.one l (.loop { rec with state := .busy })).dj ho3 := Heap.dj_le b3.djo (Heap.le_add_right (dfb _)) (Heap.le_refl _)
      have t3 : hf.dj hp3 := Heap.dj_le b3.djp (Heap.le_add_left _ _) (Heap.le_refl _)
      have t4 : hf.dj ho3 := Heap.dj_le b3.djo (Heap.le_add_left _ _) (Heap.le_refl _)
      have dN : (Heap.one l (.loop recS)).dj ho3 := dj_one t2
      refine ⟨hp3, (Heap.one l (.loop recS)).add ho3, false, rfl, ⟨put_le s3.inp (dj_at t1 (one_at _ _)), Heap.add_le (put_one hl3) (put_le s3.ino (dj_at t2 (one_at _ _))), Heap.dj_symm (Heap.add_dj (dj_one t1) (Heap.dj_symm s3.dj)), (fun _ h => nomatch h),
          sep_one ⟨fun p hp => p.up b3.hp0 (s1.ps p (List.mem_append_right _ hp)), ho3, Heap.le_add_right dN, Heap.le_add_left _ _, dN, s3.os⟩⟩, b1.hp0.tr b3.hp0, put_le ((Heap.le_add_left _ _).tr b3.hf) fl, t3, Heap.dj_symm (Heap.add_dj (Heap.dj_symm (dfb _)) (Heap.dj_symm t4)),
          (b1.rest.trans put_rest).trans (b3.rest.trans put_rest)⟩
    | exit i => exact q2.elim
    | goto i => exact q2.elim
    | panic c => exact q2.elim
    | outgrown => exact q2.elim
  | exit i => exact q.elim
  | goto i => exact q.elim
  | ret => exact q.elim
  | panic c => exact q.elim
  | outgrown => exact q.elim⟩
theorem go_rangeS {α : Type} {enc : α → Value} {Px : List α → α → List PA} {g : Operand} {t : Nat} {assign body : Code} {gf : FuncId} {first cap : Array Value} (hro : C.ro = none) (hg : ev E g = some (.func (.func gf) first cap)) (ht : Nat.blt t C.N.n = true)
    (O Ox : List α → List OA) (OsI OsI' : List OA) {r1 rr : List OA} (hO1 : Takes Os OsI r1) (hO2 : Takes r1 (O []) rr) (PsI : List PA) (hP : Subs Ps PsI) (Sx Tx : List α → Prop)
    (hseq : ∀ (l : Nat) (R St : List α → OA), YldS C.P l enc Px R St → Spec C.P gf (first ++ #[.func (.yield l) #[] #[]] ++ cap) PsI (R [] :: OsI) (fun v Ps' Os' => Ps' = [] ∧ ((∃ xs, Sx xs ∧ Os' = R xs :: OsI') ∨ (∃ xs, Tx xs ∧ Os' = St xs :: OsI'))))
    {X : Type} (chg : X → Env) (rest : Env) (O1 : List α → α → X → List OA) (J : List α → α → X → Prop)
    (ha : ∀ l pre x w0 hp0 hf0, Go (rc C.P C.N.n l w0 hp0 hf0) [.code assign, .back (Bk (rc C.P C.N.n l w0 hp0 hf0) chg rest (fun _ => Px pre x ++ Ps) (O1 pre x) (J pre x) (fun _ => 0) 1)] ((t, enc x) :: E) (Px pre x ++ Ps) (O pre))
    (hb : ∀ l pre x y, J pre x y → ∀ w0 hp0 hf0, Go (rcS C.P C.N.n l w0 hp0 hf0 (Ox (pre ++ [x]))) [.code body, .back (Bk (rcS C.P C.N.n l w0 hp0 hf0 (Ox (pre ++ [x]))) (fun _ : Unit => []) [] (fun _ => Ps) (fun _ => O (pre ++ [x])) (fun _ => True) (fun _ => 0) 1)] (chg y ++ rest) (Px pre x ++ Ps) (O1 pre x y))
    (done : ∀ D xs, C.hf.dj (Heap.one D (.deferred (some []))) → Sx xs → Go (after C D) k E Ps (OsI' ++ (O xs ++ rr)))
    (stop : ∀ D xs, C.hf.dj (Heap.one D (.deferred (some []))) → Tx xs → Go (after C D) (.code .ret :: k) E Ps (OsI' ++ (Ox xs ++ rr))) : Go C (.code (.rangeFunc g #[t] assign body) :: k) E Ps Os := by
  obtain ⟨P, fn, N, ro, w0, hp0, hf0, Q, fin, pan, out⟩ := C
  cases hro
  intro a w hp ho hf hs hb'
  obtain ⟨hI, hr1, aI, ar1, dI, sI, sr1⟩ := Sep.takes hO1 hs.os
  obtain ⟨hO, hR, aO, aR, dO, sO, sR⟩ := Sep.takes hO2 sr1
  show (Code.rangeFunc g #[t] assign body).wpIn Fence.wide 0 P (den none P fin k) a w
  refine wpIn_rangeFunc fun fnid _ => ?_
  generalize hrec : ({ state := .ready, pending := none, fn := fnid, tmps := a.tmps, params := #[t], assign, body, defers := w.heap.size } : Loop) = rec
  have hY := roundsS (Ps := Ps) (E := E) (Px := Px) (P := P) (n := N.n) (l := w.heap.size + 1) (t := t) (enc := enc) (assign := assign) (body := body) (tmps := a.tmps) (fn := fnid) (D := w.heap.size) O Ox hf.size ht hf.at_ chg rest O1 J (ha _) (hb _)
  rw [hrec] at hY
  have hsp := hseq (w.heap.size + 1) _ _ hY
  obtain ⟨fd, q1, q2, q3⟩ := hsp.fn
  have hres : (resolve a.eval (rangeCall g (w.heap.size + 1)) 0).run P ((w.alloc (.deferred (some []))).alloc (.loop rec)) = .ok { target := .fn (.func gf) cap, args := first ++ #[.func (.yield (w.heap.size + 1)) #[] #[]] } ((w.alloc (.deferred (some []))).alloc (.loop rec)) := by
    have hg' : a.eval g = .func (.func gf) first cap := hf.ev hg
    show (Deferred.ofValue (a.eval g) (#[Operand.const (.func (.yield (w.heap.size + 1)) #[] #[])].map a.eval)).run P _ = _
    rw [hg']
    simp [Deferred.ofValue, Act.eval]
  have hinv : (invoke (.fn (.func gf) cap) (first ++ #[.func (.yield (w.heap.size + 1)) #[] #[]])).run P ((w.alloc (.deferred (some []))).alloc (.loop rec)) = .ok (.enter gf (first ++ #[.func (.yield (w.heap.size + 1)) #[] #[]] ++ cap)) ((w.alloc (.deferred (some []))).alloc (.loop rec)) := by
    simp only [invoke, callFunc, program, bind, Sem.bind, Sem.run, q1, q2, q3]
    simp only [Bool.false_eq_true, if_false]
    rfl
  refine ⟨_, _, _, _, _, gf, _, _, by have := run_enterLoop_outer (P := P) (w := w) fnid a.tmps #[t] assign body; rw [hrec] at this; exact this, hres, fun _ _ => trivial, hinv, fun h => by simp [Fence.wide] at h, ?_⟩
  have hwsz : ((w.alloc (.deferred (some []))).alloc (.loop rec)).heap = (w.heap.push (.deferred (some []))).push (.loop rec) := rfl
  have fresh : ∀ h : Heap, h.le (hpOf w) → ∀ b, w.heap.size ≤ b → h b = none := fun h hl b hb => by
    cases e : h b with
    | none => rfl
    | some u => have := hl _ _ e; simp [hpOf] at this; have := (Array.getElem?_eq_some_iff.1 this).1; omega
  have grow : (hpOf w).le (hpOf ((w.alloc (.deferred (some []))).alloc (.loop rec))) := fun b u e => by
    have hlt : b < w.heap.size := (Array.getElem?_eq_some_iff.1 e).1
    simp only [hpOf, hwsz] at e ⊢
    rw [Array.getElem?_push_lt (by simp; omega)]
    simp only [Option.some.injEq]
    rw [Array.getElem_push_lt hlt]
    exact (Array.getElem?_eq_some_iff.1 e).2
  have hD : ((w.alloc (.deferred (some []))).alloc (.loop rec)).heap[w.heap.size]? = some (.deferred (some [])) := by
    rw [hwsz, Array.getElem?_push, Array.getElem?_push]; simp
  have hL : ((w.alloc (.deferred (some []))).alloc (.loop rec)).heap[w.heap.size + 1]? = some (.loop rec) := by
    rw [hwsz, Array.getElem?_push, if_pos (by simp)]
  have oneD : (Heap.one w.heap.size (.deferred (some []))).le (hpOf ((w.alloc (.deferred (some []))).alloc (.loop rec))) := Heap.one_le hD
  have oneL : (Heap.one (w.heap.size + 1) (.loop rec)).le (hpOf ((w.alloc (.deferred (some []))).alloc (.loop rec))) := Heap.one_le hL
  have djD : ∀ h : Heap, h.le (hpOf w) → (Heap.one w.heap.size (.deferred (some []))).dj h := fun h hl => Heap.one_dj (fresh h hl _ (Nat.le_refl _))
  have djL : ∀ h : Heap, h.le (hpOf w) → ∀ o', (Heap.one (w.heap.size + 1) o').dj h := fun h hl o' => Heap.one_dj (fresh h hl _ (by omega))
  have djDL : ∀ o', (Heap.one w.heap.size (.deferred (some []))).dj (Heap.one (w.heap.size + 1) o') := fun o' => Heap.one_dj (by simp [Heap.one])
  have hr0 : Rest w ((w.alloc (.deferred (some []))).alloc (.loop rec)) := ⟨rfl, rfl, rfl, Nat.le_refl _, by rw [hwsz]; simp; omega⟩
  have lI : hI.le (hpOf w) := aI.tr hs.ino
  have lr1 : hr1.le (hpOf w) := ar1.tr hs.ino
  have lO : hO.le (hpOf w) := aO.tr lr1
  have lR : hR.le (hpOf w) := aR.tr lr1
  -- the owned of the call: the record, the body's, the iterator's
  have dLO : (Heap.one (w.heap.size + 1) (.loop rec)).dj hO := djL _ lO _
  have dIO : hI.dj hO := Heap.dj_le dI (Heap.le_refl _) aO
  have dIR : hI.dj hR := Heap.dj_le dI (Heap.le_refl _) aR
  have dX : ((Heap.one (w.heap.size + 1) (.loop rec)).add hO).dj hI := Heap.add_dj (djL _ lI _) (Heap.dj_symm dIO)
  have dpO : hp.dj hO := Heap.dj_le hs.dj (Heap.le_refl _) (aO.tr ar1)
  have dpI : hp.dj hI := Heap.dj_le hs.dj (Heap.le_refl _) aI
  have dpR : hp.dj hR := Heap.dj_le hs.dj (Heap.le_refl _) (aR.tr ar1)
  have satI : Sat ((w.alloc (.deferred (some []))).alloc (.loop rec)) hp (((Heap.one (w.heap.size + 1) (.loop rec)).add hO).add hI) PsI (loopA Ps (w.heap.size + 1) rec (O []) :: OsI) :=
    ⟨hs.inp.tr grow, Heap.add_le (Heap.add_le oneL (lO.tr grow)) (lI.tr grow), Heap.dj_symm (Heap.add_dj (Heap.add_dj (djL _ hs.inp _) (Heap.dj_symm dpO)) (Heap.dj_symm dpI)), (hs.ents hP.ents).ps,
      (Heap.one (w.heap.size + 1) (.loop rec)).add hO, hI, Heap.le_add_left _ _, Heap.le_add_right dX, dX, ⟨hs.ps, hO, Heap.le_add_right dLO, Heap.le_add_left _ _, dLO, sO⟩, sI⟩
  have fI : hf0.dj hI := Heap.dj_le hb'.djo (Heap.le_refl _) aI
  have fO : hf0.dj hO := Heap.dj_le hb'.djo (Heap.le_refl _) (aO.tr ar1)
  have fR : hf0.dj hR := Heap.dj_le hb'.djo (Heap.le_refl _) (aR.tr ar1)
  have hfw : hf0.le (hpOf w) := hb'.hf
  -- the frame of the call
  have dFD : (hf0.add hR).dj (Heap.one w.heap.size (.deferred (some []))) := Heap.dj_symm (Heap.dj_symm (Heap.add_dj (Heap.dj_symm (djD _ hfw)) (Heap.dj_symm (djD _ lR))))
  have frame : ((hf0.add hR).add (Heap.one w.heap.size (.deferred (some [])))).le (hpOf ((w.alloc (.deferred (some []))).alloc (.loop rec))) := Heap.add_le (Heap.add_le (hfw.tr grow) (lR.tr grow)) oneD
  have fdp : ((hf0.add hR).add (Heap.one w.heap.size (.deferred (some [])))).dj hp := Heap.add_dj (Heap.add_dj hb'.djp (Heap.dj_symm dpR)) (djD _ hs.inp)
  have fdo : ((hf0.add hR).add (Heap.one w.heap.size (.deferred (some [])))).dj (((Heap.one (w.heap.size + 1) (.loop rec)).add hO).add hI) :=
    Heap.dj_symm (Heap.add_dj (Heap.add_dj (Heap.dj_symm (Heap.add_dj (Heap.add_dj (Heap.dj_symm (djL _ hfw _)) (Heap.dj_symm (djL _ lR _))) (djDL _))) (Heap.dj_symm (Heap.add_dj (Heap.add_dj fO (Heap.dj_symm dO)) (djD _ lO)))) (Heap.dj_symm (Heap.add_dj (Heap.add_dj fI (Heap.dj_symm dIR)) (djD _ lI))))
  refine (callsIn_wide.2 (hsp.calls _ hp _ _ satI frame fdp fdo)).mono ?_
  rintro e w3 ⟨v, hp3, ho3, Ps3, Os3, rfl, ⟨rfl, hcase⟩, hs3, hle3, hfl3, e1, e2, hr3⟩
  have key : ∀ (rec3 : Loop) (O3 : List OA) (o3 : Obj), Sat w3 hp3 ho3 [] (loopA Ps (w.heap.size + 1) rec3 O3 :: OsI') → w3.heap[w.heap.size + 1]? = some (.loop rec3) ∧ ∃ hoN, Sat (w3.putObj (w.heap.size + 1) o3) hp3 hoN Ps (OsI' ++ (O3 ++ rr)) ∧
      Base (after ⟨P, fn, N, none, w0, hp0, hf0, Q, fin, pan, out⟩ w.heap.size) (w3.putObj (w.heap.size + 1) o3) hp3 hoN := by
    intro rec3 O3 o3 hs3
    obtain ⟨gA, gI, mA, mI, dAI, ⟨hps3, gO, mO, mL, dLO3, sO3⟩, sI3⟩ := hs3.os
    have mLo : (Heap.one (w.heap.size + 1) (.loop rec3)).le ho3 := mL.tr mA
    have hl3 : w3.heap[w.heap.size + 1]? = some (.loop rec3) := hs3.ino _ _ (mLo _ _ (one_at _ _))
    have lR3 : hR.le ((hf0.add hR).add (Heap.one w.heap.size (.deferred (some [])))) := (Heap.le_add_right fR).tr (Heap.le_add_left _ _)
    have lF3 : (hf0.add (Heap.one w.heap.size (.deferred (some [])))).le ((hf0.add hR).add (Heap.one w.heap.size (.deferred (some [])))) := Heap.add_le ((Heap.le_add_left _ _).tr (Heap.le_add_left _ _)) (Heap.le_add_right dFD)
    have dL3 : ∀ h : Heap, h.dj ho3 → h (w.heap.size + 1) = none := fun h d => by
      rcases d (w.heap.size + 1) with q | q
      · exact q
      · rw [mLo _ _ (one_at _ _)] at q; cases q
    have oA : gO.le ho3 := mO.tr mA
    have dOI : gI.dj gO := Heap.dj_symm (Heap.dj_le dAI mO (Heap.le_refl _))
    have dRx : hR.dj ho3 := Heap.dj_le e2 lR3 (Heap.le_refl _)
    have dOR : gO.dj hR := Heap.dj_symm (Heap.dj_le dRx (Heap.le_refl _) oA)
    have dIR3 : gI.dj hR := Heap.dj_symm (Heap.dj_le dRx (Heap.le_refl _) mI)
    have dI3 : gI.dj (gO.add hR) := Heap.dj_symm (Heap.add_dj (Heap.dj_symm dOI) (Heap.dj_symm dIR3))
    have nO : gO (w.heap.size + 1) = none := dj_at dLO3 (one_at _ _)
    have nI : gI (w.heap.size + 1) = none := by
      rcases dAI (w.heap.size + 1) with q | q
      · rw [mL _ _ (one_at _ _)] at q; cases q
      · exact q
    refine ⟨hl3, gI.add (gO.add hR), ?_, ?_⟩
    · refine ⟨put_le hs3.inp (dL3 _ hs3.dj), Heap.add_le (put_le (mI.tr hs3.ino) nI) (Heap.add_le (put_le (oA.tr hs3.ino) nO) (put_le (lR3.tr hfl3) (dL3 _ dRx))), ?_, hps3, ?_⟩
      · exact Heap.dj_symm (Heap.add_dj (Heap.dj_symm (Heap.dj_le hs3.dj (Heap.le_refl _) mI)) (Heap.add_dj (Heap.dj_symm (Heap.dj_le hs3.dj (Heap.le_refl _) oA)) (Heap.dj_le e1 lR3 (Heap.le_refl _))))
      · exact Sep.app (Heap.le_add_left _ _) (Heap.le_add_right dI3) dI3 sI3 (Sep.app (Heap.le_add_left _ _) (Heap.le_add_right dOR) dOR sO3 (Sep.up hle3 sR))
    · have dF1 : (hf0.add (Heap.one w.heap.size (.deferred (some [])))).dj ho3 := Heap.dj_le e2 lF3 (Heap.le_refl _)
      refine ⟨hb'.hp0.tr hle3, put_le (lF3.tr hfl3) (dL3 _ dF1), Heap.dj_le e1 lF3 (Heap.le_refl _), ?_, ((hb'.rest.trans hr0).trans hr3).trans put_rest⟩
      refine Heap.dj_symm (Heap.add_dj (Heap.dj_symm (Heap.dj_le dF1 (Heap.le_refl _) mI)) (Heap.add_dj (Heap.dj_symm (Heap.dj_le dF1 (Heap.le_refl _) oA)) ?_))
      exact Heap.dj_symm (Heap.add_dj fR (djD _ lR))
  have hfit : Fits (after ⟨P, fn, N, none, w0, hp0, hf0, Q, fin, pan, out⟩ w.heap.size).N E { a with defers := { target := .collected w.heap.size, args := #[] } :: a.defers } := ⟨hf.size, by show _ :: a.defers = _ :: N.ds; rw [hf.dfs], hf.at_⟩
  rcases hcase with ⟨xs, hxs, rfl⟩ | ⟨xs, hxs, rfl⟩
  · obtain ⟨hl3, hoN, k1, k2⟩ := key rec (O xs) (.loop { rec with state := .exhausted, pending := none }) hs3
    refine ⟨_, _, run_endLoop (P := P) hl3 (by rw [← hrec]; simp), ?_⟩
    rw [show rec.pending = none from by rw [← hrec]]
    exact done w.heap.size xs (Heap.dj_symm (djD _ hfw)) hxs _ _ hp3 hoN hfit k1 k2
  · obtain ⟨hl3, hoN, k1, k2⟩ := key _ (Ox xs) (.loop { state := .exhausted, pending := some .ret, fn := fnid, tmps := a.tmps, params := #[t], assign, body, defers := w.heap.size }) hs3
    refine ⟨_, _, run_endLoop (P := P) hl3 (by simp), ?_⟩
    exact stop w.heap.size xs (Heap.dj_symm (djD _ hfw)) hxs _ _ hp3 hoN hfit k1 k2
/-- Marks of loops that are behind. -/
inductive EndM (C0 : Ctx) : Ctx → Prop
  | base : EndM C0 C0
  | mark {C : Ctx} {D : Nat} (h : EndM C0 C) (hd : C.hf.dj (Heap.one D (.deferred (some [])))) : EndM C0 (after C D)
theorem EndM.fin {C0 C : Ctx} (h : EndM C0 C) : C.fin = C0.fin ∧ C.P = C0.P ∧ C.fn = C0.fn := by
  induction h with
  | base => exact ⟨rfl, rfl, rfl⟩
  | mark h hd ih => exact ih
theorem leaves_marks {C0 : Ctx} (h0 : AtEnd C0) {E : Env} {Ps : List PA} {Os : List OA} {v : Value} (Ps' : List PA) (Os' : List OA) {r : List OA} (q : C0.Q v Ps' Os') (hP : Subs Ps Ps') (hO : Takes Os Os' r) {C : Ctx} (h : EndM C0 C) :
    (∀ (a : Act) (w : World) (hp ho : Heap), Fits C.N E a → Sat w hp ho Ps Os → (results C0.fn a.tmps).run C0.P w = .ok v w) → ∀ (a : Act) (w : World) (hp ho : Heap), Fits C.N E a → Sat w hp ho Ps Os → Base C w hp ho → LeavesInM Fence.wide 0 C0.P C0.fn a.tmps (endR C0.w0 C0.hp0 C0.hf C0.Q) a.defers .returning w := by
  induction h with
  | base =>
    intro hv a w hp ho hf hs hb
    have hd : a.defers = [] := hf.dfs.trans h0.2
    rw [hd]
    obtain ⟨h1, h2, a1, b, c1, d, e⟩ := Sep.takes hO hs.os
    exact ⟨v, hv a w hp ho hf hs, v, hp, ho, Ps', Os', rfl, q, ⟨hs.inp, hs.ino, hs.dj, (hs.ents hP.ents).ps, Sep.mono a1 d⟩, hb.hp0, hb.hf, hb.djp, hb.djo, hb.rest⟩
  | @mark C D h hd ih =>
    intro hv a w hp ho hf hs hb
    have ofF : C.hf.le (C.hf.add (Heap.one D (.deferred (some [])))) := Heap.le_add_left _ _
    have ofD : (Heap.one D (.deferred (some []))).le (C.hf.add (Heap.one D (.deferred (some [])))) := Heap.le_add_right hd
    have hDw : w.heap[D]? = some (.deferred (some [])) := hb.hf _ _ (ofD _ _ (one_at _ _))
    have nD : ∀ h : Heap, (C.hf.add (Heap.one D (.deferred (some [])))).dj h → h D = none := fun h d => dj_at (Heap.dj_le d ofD (Heap.le_refl _)) (one_at _ _)
    have sat2 : Sat (w.putObj D (.deferred none)) hp ho Ps Os := ⟨put_le hs.inp (nD _ hb.djp), put_le hs.ino (nD _ hb.djo), hs.dj, hs.ps, hs.os⟩
    have hds : a.defers = { target := .collected D, args := #[] } :: C.N.ds := hf.dfs
    have base2 : Base C (w.putObj D (.deferred none)) hp ho := ⟨hb.hp0, put_le (ofF.tr hb.hf) (dj_at (Heap.dj_symm hd) (one_at _ _)), Heap.dj_le hb.djp ofF (Heap.le_refl _), Heap.dj_le hb.djo ofF (Heap.le_refl _), hb.rest.trans put_rest⟩
    have h1 := ih (fun a w hp ho hf hs => hv { a with defers := { target := .collected D, args := #[] } :: C.N.ds } w hp ho ⟨hf.size, rfl, hf.at_⟩ hs) { a with defers := C.N.ds } _ hp ho ⟨hf.size, rfl, hf.at_⟩ sat2 base2
    rw [hds]
    exact ⟨by simp, .inl ⟨D, _, rfl, run_takeDeferred hDw, h1⟩⟩
theorem go_endN {C0 : Ctx} (h : EndM C0 C) (h0 : AtEnd C0) {v : Value} (Ps' : List PA) (Os' : List OA) {r : List OA} (hv : ∀ (a : Act) (w : World) (hp ho : Heap), Fits C.N E a → Sat w hp ho Ps Os → (results C.fn a.tmps).run C.P w = .ok v w)
    (q : C0.Q v Ps' Os') (hP : Subs Ps Ps') (hO : Takes Os Os' r) : Go C [] E Ps Os := fun a w hp ho hf hs hb => by
  have := leaves_marks h0 Ps' Os' q hP hO h (fun a w hp ho hf hs => by have := hv a w hp ho hf hs; rw [h.fin.2.1, h.fin.2.2] at this; exact this) a w hp ho hf hs hb
  show C.fin .normal a w
  rw [h.fin.1, h0.1]
  exact this
theorem go_retN {C0 : Ctx} (h : EndM C0 C) (h0 : AtEnd C0) {v : Value} (Ps' : List PA) (Os' : List OA) {r : List OA} (hv : ∀ (a : Act) (w : World) (hp ho : Heap), Fits C.N E a → Sat w hp ho Ps Os → (results C.fn a.tmps).run C.P w = .ok v w)
    (q : C0.Q v Ps' Os') (hP : Subs Ps Ps') (hO : Takes Os Os' r) : Go C (.code .ret :: k) E Ps Os := fun a w hp ho hf hs hb =>
  wpIn_ret (by
    have := leaves_marks h0 Ps' Os' q hP hO h (fun a w hp ho hf hs => by have := hv a w hp ho hf hs; rw [h.fin.2.1, h.fin.2.2] at this; exact this) a w hp ho hf hs hb
    show den C.ro C.P C.fin k .ret a w
    rw [den_ret, h.fin.1, h0.1]
    exact this)
end
end Go.Proofs.YtkhddfknpegpmaaGreat.SL
