/- Struct literals and their comparing, the lesser and the greater, bytes as a string; rows changed in place. -/
import Derived.Test.YtdkfpgdfjnaciaaS6
import Derived.Laws.Tables
import Derived.Laws.StructEq
import Derived.Laws.BytesString
set_option linter.unusedVariables false
set_option linter.unusedSimpArgs false
namespace Go.Proofs.Ytdkfpgdfjnaciaa.SL

/-! ### struct literals -/
def bparts (tb : TB) (fs : List Field) (E : Env) : List Value → List (Nat × Operand) → Option (List Value)
  | z, [] => some z
  | z, (j, x) :: r => match atL fs j with
    | none => none
    | some fd => match lookT tb fd.type with
      | none => none
      | some i => match ev E x with
        | none => none
        | some v => match takeL i.size (cellsL v) with
          | none => none
          | some a => cond (Nat.beq (cellsL v).length i.size) (match putL fd.offset a z with
            | some z' => bparts tb fs E z' r
            | none => none) none
def sizes (tb : TB) : List Field → Option (List (Nat × Nat))
  | [] => some []
  | fd :: r => match lookT tb fd.type with
    | none => none
    | some i => match sizes tb r with
      | none => none
      | some l => some ((fd.offset, i.size) :: l)
section
variable {P : Program} {tb : TB} (ht : TOk P tb)
include ht in
theorem sizes_run : ∀ {fs : List Field} {l : List (Nat × Nat)}, sizes tb fs = some l → fs.mapM (fun f => (P.info? f.type).map fun i => (f.offset, i.size)) = some l ∧
    ∀ j fd i, atL fs j = some fd → lookT tb fd.type = some i → l[j]? = some (fd.offset, i.size)
  | [], l, h => by simp [sizes] at h; subst h; exact ⟨rfl, fun j fd i h => by cases h⟩
  | fd :: r, l, h => by
    simp only [sizes] at h
    split at h
    · cases h
    · rename_i i e
      split at h
      · cases h
      · rename_i l' e2
        cases h
        obtain ⟨h1, h2⟩ := sizes_run e2
        obtain ⟨x, q1, q2, q3, q4⟩ := (ht _ _ e).info
        refine ⟨by simp [List.mapM_cons, q1, h1, q3], fun j fd' i' hj hi => ?_⟩
        cases j with
        | zero => simp [atL] at hj; subst hj; rw [e] at hi; cases hi; rfl
        | succ j => simpa using h2 j fd' i' (by simpa [atL] using hj) hi
include ht in
theorem bparts_run {N : NN} {E : Env} {a : Act} (hf : Fits N E a) {fs : List Field} {pl : List (Nat × Nat)} (hpl : sizes tb fs = some pl) : ∀ (l : List (Nat × Operand)) (z cs : List Value) (cells : Array Value), bparts tb fs E z l = some cs → cells.toList = z →
    ∃ out, Instr.fill (pl.toArray[·]?) cells (l.map fun p => (p.1, a.eval p.2)) = some out ∧ out.toList = cs
  | [], z, cs, cells, h, hc => by simp [bparts] at h; subst h; exact ⟨cells, rfl, hc⟩
  | (j, x) :: l, z, cs, cells, h, hc => by
    simp only [bparts] at h
    split at h
    · cases h
    · rename_i fd e1
      split at h
      · cases h
      · rename_i i e2
        split at h
        · cases h
        · rename_i v e3
          split at h
          · cases h
          · rename_i a0 e4
            cases hq : Nat.beq (cellsL v).length i.size with
            | false => rw [hq] at h; cases h
            | true =>
              rw [hq] at h
              simp only [cond_true] at h
              have ha0 := takeL_all e4 hq
              subst ha0
              split at h
              · rename_i z' e5
                have hlen := Nat.eq_of_beq_eq_true hq
                obtain ⟨p1, p2⟩ := putL_eq e5
                have hsz : cells.size = z.length := by rw [← hc]; simp
                have hfc := fill_cells fd.offset v cells (by omega)
                obtain ⟨out, h1, h2⟩ := bparts_run hf hpl l z' cs (v.cells.zipIdx.foldl (fun cs p => cs.setIfInBounds (fd.offset + p.2) p.1) cells) h (by rw [p2, ← hc]; exact hfc)
                refine ⟨out, ?_, h2⟩
                have hpj := (sizes_run ht hpl).2 j fd i e1 e2
                have hvs : v.cells.size = (cellsL v).length := by rw [cellsL_eq]; simp
                simp only [List.map_cons, Instr.fill, hf.ev e3, List.getElem?_toArray, hpj]
                rw [if_neg (by simp [hvs, hlen]; omega)]
                simp only [List.getElem?_toArray] at h1
                exact h1
              · cases h
include ht in
theorem build_val {N : NN} {E : Env} {o : Oper} {t : TypeId} {parts : Array (Nat × Operand)} {fs : Array Field} {s1 : Nat} {a1 : Bool} {z1 : Value} {y1 : Nat} {cs : List Value} {pl : List (Nat × Nat)} (ho : o.op = .build t parts)
    (hi : lookT tb t = some ⟨.struct fs, s1, a1, z1, y1⟩) (hpl : sizes tb fs.toList = some pl) (hc : bparts tb fs.toList E (cellsL z1) parts.toList = some cs) (a : Act) (w : World) (hf : Fits N E a) :
    (execOp a.eval o).run P w = .ok (.value (.agg cs.toArray)) w := by
  obtain ⟨x, q1, q2, q3, q4⟩ := (ht _ _ hi).info
  have hu := (ht _ _ hi).u
  obtain ⟨out, h1, h2⟩ := bparts_run ht hf hpl parts.toList (cellsL z1) cs z1.cells hc (by rw [cellsL_eq])
  have hout : out = cs.toArray := by apply Array.ext'; simpa using h2
  subst hout
  have hb : P.built t (parts.map fun (i, x) => (i, a.eval x)).toList = some cs.toArray := by
    unfold Program.built
    simp only [q1, hu, q2, (sizes_run ht hpl).1, Array.toList_map]
    exact h1
  have := run_build w t (parts.map fun (i, x) => (i, a.eval x)) _ hb
  simp [execOp, ho, this]
end

/-! ### structs compared, the lesser, the greater, bytes as a string -/
section
variable {C : Ctx} {k : List It} {E : Env} {Ps : List PA} {Os : List OA}
variable {o : Oper} {ops : Array Oper} {S : World → Prop} {r : Pl} {f : Bool}
def fieldsEq (tb : TB) (xs ys : List Value) : List Field → Option Bool
  | [] => some true
  | fd :: r => match lookT tb fd.type with
    | some ⟨.int _, _, false, _, _⟩ => match atL xs fd.offset, atL ys fd.offset, fieldsEq tb xs ys r with
      | some (.int k a), some (.int k' b), some q => cond (sameK k k') (some (decide (a = b) && q)) none
      | _, _, _ => none
    | some ⟨.string, _, false, _, _⟩ => match atL xs fd.offset, atL ys fd.offset, fieldsEq tb xs ys r with
      | some (.string a), some (.string b), some q => some ((a.toList == b.toList) && q)
      | _, _, _ => none
    | some ⟨.bool, _, false, _, _⟩ => match atL xs fd.offset, atL ys fd.offset, fieldsEq tb xs ys r with
      | some (.bool a), some (.bool b), some q => some ((a == b) && q)
      | _, _, _ => none
    | _ => none
def plainNames : List Field → Bool
  | [] => true
  | fd :: r => fd.name != "_" && plainNames r
theorem run_part {P : Program} {tb : TB} (ht : TOk P tb) (w : World) {t : TypeId} {u : TypeDesc} {s1 : Nat} {z1 : Value} {y1 : Nat} (e : lookT tb t = some ⟨u, s1, false, z1, y1⟩) {xs : List Value} {j : Nat} {v : Value} (h : atL xs j = some v) :
    (part t xs.toArray j).run P w = .ok v w := by
  have ha := (ht _ _ e).agg
  rw [atL_eq] at h
  simp [part, ha, h]
theorem fieldsEq_run {P : Program} {tb : TB} (ht : TOk P tb) (w : World) (d : Nat) {xs ys : List Value} : ∀ {fs : List Field} {q : Bool}, plainNames fs = true → fieldsEq tb xs ys fs = some q → (Op.eqFields (d + 1) xs.toArray ys.toArray fs).run P w = .ok q w
  | [], q, _, h => by simp [fieldsEq] at h; subst h; rfl
  | fd :: r, q, hn, h => by
    simp only [plainNames, Bool.and_eq_true, bne_iff_ne, ne_eq] at hn
    unfold fieldsEq at h
    simp only [Op.eqFields, ne_eq, hn.1, not_false_iff, if_true]
    split at h
    · rename_i kk s1 z1 y1 e
      split at h
      · rename_i k1 a k2 b q2 e1 e2 e3
        cases hk : sameK k1 k2 with
        | false => rw [hk] at h; cases h
        | true =>
          rw [hk] at h
          cases h
          obtain rfl := sameK_eq hk
          have hu := run_und (ht _ _ e).u w
          have heq : (Op.equalIn (d + 1) fd.type (.int k1 a) (.int k1 b)).run P w = .ok (a == b) w := by
              simp [Op.equalIn, hu]
          simp only [Sem.run_bind, run_part ht w e e1, run_part ht w e e2, Result.andThen_ok, heq]
          by_cases hab : a = b
          · simp [hab, fieldsEq_run ht w d hn.2 e3]
          · simp [hab]
      · cases h
    · rename_i s1 z1 y1 e
      split at h
      · rename_i a b q2 e1 e2 e3
        cases h
        have hu := run_und (ht _ _ e).u w
        have heq : (Op.equalIn (d + 1) fd.type (.string a) (.string b)).run P w = .ok (a.toList == b.toList) w := by
          simp [Op.equalIn, hu, beq_toListBytes]
        simp only [Sem.run_bind, run_part ht w e e1, run_part ht w e e2, Result.andThen_ok, heq]
        cases hab : (a.toList == b.toList) with
        | true => simp [fieldsEq_run ht w d hn.2 e3]
        | false => simp
      · cases h
    · rename_i s1 z1 y1 e
      split at h
      · rename_i a b q2 e1 e2 e3
        cases h
        have hu := run_und (ht _ _ e).u w
        have heq : (Op.equalIn (d + 1) fd.type (.bool a) (.bool b)).run P w = .ok (a == b) w := by
          simp [Op.equalIn, hu]
        simp only [Sem.run_bind, run_part ht w e e1, run_part ht w e e2, Result.andThen_ok, heq]
        cases hab : (a == b) with
        | true => simp [fieldsEq_run ht w d hn.2 e3]
        | false => simp
      · cases h
    · cases h
/-- x == y of structs with plain parts. -/
theorem seq_val {tb : TB} (ht : TOk C.P tb) {t : TypeId} {x y : Operand} {t2 : TypeId} {xs ys : Array Value} {fs : Array Field} {s1 : Nat} {a1 : Bool} {z1 : Value} {y1 : Nat} {q : Bool} (ho : o.op = .binOp .eql t x y t2)
    (hx : ev E x = some (.agg xs)) (hy : ev E y = some (.agg ys)) (hi : lookT tb t = some ⟨.struct fs, s1, a1, z1, y1⟩) (hn : plainNames fs.toList = true) (hq : fieldsEq tb xs.toList ys.toList fs.toList = some q)
    (hg : C.P.eqGuardType C.P.depth t = false) (hs : C.P.stoodInHeld t = false) :
    ∀ a w hp ho, Fits C.N E a → Sat w hp ho Ps Os → (execOp a.eval o).run C.P w = .ok (.value (.bool q)) w := fun a w hp ho' hf hs' => by
  have hu := (ht _ _ hi).u
  have hfs : C.P.fieldsOf t = fs := by simp [Program.fieldsOf, hu]
  have h1 := run_eqGuard_agg (P := C.P) w .eql t x y xs ys hg
  have h2 := run_equalIn_agg (P := C.P) w 9999 t xs ys (by rw [hfs]; exact hu) hs
  rw [hfs] at h2
  have h3 := fieldsEq_run ht w 9998 hn hq
  simp only [Array.toArray_toList] at h3
  have h4 := run_eql_struct (P := C.P) w t xs ys
  rw [show Op.equalIn 10000 = Op.equalIn (9999 + 1) from rfl, h2, show Op.eqFields 9999 = Op.eqFields (9998 + 1) from rfl, h3] at h4
  simp only [execOp, ho, hf.ev hx, hf.ev hy, Sem.run_bind, h1, h4, Result.andThen_ok, Sem.run_pure]
theorem min_val {x y : Operand} {tys : Array TypeId} {k1 k2 : IntKind} {n m : Int} (ho : o.op = .call ⟨.builtin .min, #[x, y], tys⟩) (hx : ev E x = some (.int k1 n)) (hy : ev E y = some (.int k2 m)) :
    ∀ a w hp ho, Fits C.N E a → Sat w hp ho Ps Os → (execOp a.eval o).run C.P w = .ok (.value (.int k1 (if m < n then m else n))) w := fun a w hp ho' hf hs' => by
  simp [execOp, ho, resolve, invoke, builtin, hf.ev hx, hf.ev hy, Builtin.min_, Builtin.min2]
theorem max_val {x y : Operand} {tys : Array TypeId} {k1 k2 : IntKind} {n m : Int} (ho : o.op = .call ⟨.builtin .max, #[x, y], tys⟩) (hx : ev E x = some (.int k1 n)) (hy : ev E y = some (.int k2 m)) :
    ∀ a w hp ho, Fits C.N E a → Sat w hp ho Ps Os → (execOp a.eval o).run C.P w = .ok (.value (.int k1 (if n < m then m else n))) w := fun a w hp ho' hf hs' => by
  simp [execOp, ho, resolve, invoke, builtin, hf.ev hx, hf.ev hy, Builtin.max_, Builtin.max2]
def bytesOf (ns : List Int) : ByteArray := ns.foldl (fun r n => r.push (UInt8.ofNat n.toNat)) ByteArray.empty
/-- string(b) of bytes that are one's own. -/
theorem str_val {tb : TB} (ht : TOk C.P tb) {t t2 e : TypeId} {x : Operand} {A : Option Addr} {c : Nat} {ns : List Int} {s1 : Nat} {a1 : Bool} {z1 : Value} {y1 : Nat} {s2 : Nat} {a2 : Bool} {z2 : Value} {y2 : Nat} {s3 : Nat} {a3 : Bool} {z3 : Value} {y3 : Nat} {rr : List OA}
    (ho : o.op = .convert t t2 x) (hx : ev E x = some (.slice A ns.length c)) (hi : lookT tb t = some ⟨.slice e, s1, a1, z1, y1⟩) (hj : lookT tb t2 = some ⟨.string, s2, a2, z2, y2⟩) (he : lookT tb e = some ⟨.int .u8, s3, a3, z3, y3⟩)
    (hr : Rem (ol (tInt .u8) e A c ns) Os rr) :
    ∀ a w hp ho, Fits C.N E a → Sat w hp ho Ps Os → (execOp a.eval o).run C.P w = .ok (.value (.string (bytesOf ns))) w := fun a w hp ho' hf hs' => by
  have h1 := run_convert_bytes_string (P := C.P) w t t2 e A ns.length c (ht _ _ hi).u (ht _ _ he).u (ht _ _ hj).u
  have h2 : (Conv.bytesToString (.slice A ns.length c)).run C.P w = .ok (.string (bytesOf ns)) w := by
    obtain ⟨g1, la, cs, lrow, lreps⟩ := hr.sep hs'.os
    obtain ⟨q1, q2, q3, q4⟩ := lrow
    cases A with
    | none =>
      rcases q4 with ⟨q5, _⟩ | ⟨g, cur, e1, _⟩
      · have : ns = [] := List.eq_nil_of_length_eq_zero q5
        subst this
        simp [Conv.bytesToString, bytesOf]
      · cases e1
    | some ad =>
      have hcs : ∀ (ns : List Int) (cs : List Value), Reps (tInt .u8) hp ns cs → cs = ns.map (Value.int .u8) := by
        intro ns
        induction ns with
        | nil => exact fun cs h => h
        | cons n ns ih =>
          rintro cs ⟨a, b, e, h1, h2⟩
          cases h1
          rw [e, ih b h2]; rfl
      refine run_bytesToString w ad ns.length c ns ?_
      rcases q4 with ⟨q5, _⟩ | ⟨g, cur, e1, hg, hcur, htake⟩
      · have : ns = [] := List.eq_nil_of_length_eq_zero q5
        subst this
        simp [loadCells, loadCellsFrom]
      · cases e1
        have := loadCells_run (P := C.P) (w := w) (b := g) ns.length 0 0 (ns.map (Value.int .u8)) #[] (by simp) (fun j v hj => by
          rw [show 0 + (0 + j) = j from by omega]
          refine cellH_world (cellH_le (la.tr hs'.ino) ?_)
          rw [← hcs ns cs lreps, ← htake, List.getElem?_take] at hj
          split at hj
          · simp only [cellH, hg]
            rw [← Array.getElem?_toList]; exact hj
          · cases hj)
        simpa [loadCells] using this
  rw [← h1] at h2
  simp [execOp, ho, hf.ev hx, h2]

/-! ### rows of one's own, opened -/
def rps {α : Type} (T : Ty α) (xs : List α) (cs : List Value) : PA := ⟨fun h => Reps T h xs cs, fun hl h => h.up hl⟩
theorem Sat.addp {w : World} {hp ho : Heap} {q : PA} (hs : Sat w hp ho Ps Os) (h : q.p hp) : Sat w hp ho (q :: Ps) Os := ⟨hs.inp, hs.ino, hs.dj, forall_cons h hs.ps, hs.os⟩
/-- An owned list with room: its block, its cells. -/
theorem go_ol_open {α : Type} {T : Ty α} {e : Nat} {A : Option Addr} {c : Nat} {xs : List α} {rr : List OA} (h : Rem (ol T e A c xs) Os rr) (hpos : 0 < xs.length)
    (g : ∀ b cs cur, A = some ⟨b, 0, none⟩ → cur.length = c * T.size → cur.take (xs.length * T.size) = cs → xs.length ≤ c → c ≤ maxLen → cs.length = xs.length * T.size → Go C k E (rps T xs cs :: Ps) (pt b e cur :: rr)) : Go C k E Ps Os := fun a w hp ho hf hs hb => by
  obtain ⟨g1, g2, la, lb, ldj, ⟨cs, lrow, lreps⟩, lsep⟩ := Sep.rem h hs.os
  obtain ⟨q1, q2, q3, q4⟩ := lrow
  rcases q4 with ⟨q5, _⟩ | ⟨b, cur, e1, hg, hcur, htake⟩
  · omega
  · exact g b cs cur.toList e1 (by simpa using hcur) htake q2 q3 q1 a w hp ho hf ⟨hs.inp, hs.ino, hs.dj, forall_cons lreps hs.ps, g1, g2, la, lb, ldj, by show g1 b = _; rw [hg], lsep⟩ hb
theorem go_ol_close {α : Type} {T : Ty α} {e : Nat} {b c : Nat} (xs : List α) {cs cur : List Value} {rr : List OA} (h : Rem (pt b e cur) Os rr) (hq : rps T xs cs ∈ Ps) (h1 : cur.length = c * T.size) (h2 : cur.take (xs.length * T.size) = cs) (h3 : xs.length ≤ c) (h4 : c ≤ maxLen)
    (g : Go C k E Ps (ol T e (some ⟨b, 0, none⟩) c xs :: rr)) : Go C k E Ps Os := fun a w hp ho hf hs hb =>
  g a w hp ho hf ⟨hs.inp, hs.ino, hs.dj, hs.ps, hs.os.set h (Bs := [ol T e (some ⟨b, 0, none⟩) c xs]) fun g1 q => ⟨g1, Heap.nil, Heap.le_refl _, Heap.nil_le _, Heap.dj_symm (Heap.nil_dj _),
    ⟨cs, ⟨Reps.len (hs.ps _ hq), h3, h4, .inr ⟨b, cur.toArray, rfl, q, by simpa using h1, by simpa using h2⟩⟩, hs.ps _ hq⟩, trivial⟩⟩ hb
theorem go_rps {α : Type} {T : Ty α} {xs ys : List α} {cs : List Value} (ds : List Value) (hq : rps T xs cs ∈ Ps) (hi : ∀ h, Reps T h xs cs → Reps T h ys ds) (g : Go C k E (rps T ys ds :: Ps) Os) : Go C k E Ps Os := fun a w hp ho hf hs hb =>
  g a w hp ho hf (hs.addp (hi hp (hs.ps _ hq))) hb
/-- An element of an opened list. -/
theorem go_rps_at {α : Type} {T : Ty α} {xs : List α} {cs : List Value} (hq : rps T xs cs ∈ Ps) (j : Nat) {x : α} (hj : xs[j]? = some x)
    (g : ∀ ds, ds.length = T.size → (∀ i v, ds[i]? = some v → cs[j * T.size + i]? = some v) → Go C k E (rp T x ds :: Ps) Os) : Go C k E Ps Os := fun a w hp ho hf hs hb => by
  obtain ⟨ds, h1, h2⟩ := Reps.at (hs.ps _ hq) j x hj
  exact g ds (T.len h1) h2 a w hp ho hf (hs.addp h1) hb
theorem at_row {b e : Nat} {cs cur ds : List Value} {rr : List OA} {m p n : Nat} (k : Nat) {out : List Value} (h : Rem (pt b e cur) Os rr) (h2 : cur.take m = cs) (h3 : ∀ i v, ds[i]? = some v → cs[p + i]? = some v) (ho : takeL n (dropL k ds) = some out) : At Ps Os b (0 + p + k) n out :=
  ⟨(takeL_eq ho).2, fun w hp ho' hs j v hj => by
    obtain ⟨e1, e2⟩ := takeL_eq ho
    rw [dropL_eq] at e1
    obtain ⟨h1, l1, d⟩ := h.sep hs.os
    refine cellH_world (cellH_le (l1.tr hs.ino) ?_)
    change h1 b = _ at d
    simp only [cellH, d]
    rw [e1, List.getElem?_take] at hj
    split at hj
    · rw [List.getElem?_drop] at hj
      have := h3 _ _ hj
      rw [← h2, List.getElem?_take] at this
      split at this
      · simp only [List.getElem?_toArray]
        rw [Nat.zero_add, Nat.add_assoc]
        exact this
      · cases this
    · cases hj⟩

/-! ### changes in place -/
def putS (n : Nat) (vs l : List Value) : List Value := l.take n ++ (vs ++ l.drop (n + vs.length))
theorem putS_len {n : Nat} {vs l : List Value} (h : n + vs.length ≤ l.length) : (putS n vs l).length = l.length := by simp [putS]; omega
theorem putS_take {n : Nat} {vs l : List Value} (h : n + vs.length ≤ l.length) {m : Nat} (hm : m = n + vs.length) : (putS n vs l).take m = l.take n ++ vs := by
  subst hm
  unfold putS
  rw [← List.append_assoc, List.take_append_of_le_length (by simp; omega), List.take_of_length_le (by simp; omega)]
theorem putS_low {n : Nat} {vs l : List Value} (h : n + vs.length ≤ l.length) {m : Nat} (hm : m ≤ n) : (putS n vs l).take m = l.take m := by
  unfold putS
  rw [List.take_append_of_le_length (by simp; omega), List.take_take, Nat.min_eq_left hm]
/-- append within the room that there is, of what lies anywhere. -/
theorem go_append_in {tb : TB} (ht : TOk C.P tb) {s x : Operand} {t e : TypeId} {s1 : Nat} {a1 : Bool} {z1 : Value} {y1 : Nat} {i : TI} {b n c m c2 b2 o2 : Nat} {cur news : List Value} {rr : List OA}
    (ho : o.op = .call ⟨.builtin .append, #[s, x], #[t, t]⟩) (hw : wants ops E o = some true) (hs : ev E s = some (.slice (some ⟨b, 0, none⟩) n c)) (hx : ev E x = some (.slice (some ⟨b2, o2, none⟩) m c2)) (hi : lookT tb t = some ⟨.slice e, s1, a1, z1, y1⟩) (he : lookT tb e = some i)
    (hd : okDst C.N o.dst = true) (hr : Rem (pt b e cur) Os rr) (hnews : At Ps Os b2 o2 (m * i.size) news) (h1 : oneCells news = true) (hroom : n + m ≤ c) (hc : cur.length = c * i.size)
    (hS : f = true → ∀ w hp ho, Sat w hp ho Ps (pt b e (putS (n * i.size) news cur) :: rr) → S w)
    (g : Go C (.ops ops S r :: k) (setE o.dst (.slice (some ⟨b, 0, none⟩) (n + m) c) E) Ps (pt b e (putS (n * i.size) news cur) :: rr)) : Go C (.ops ops S (.one 0 f o r) :: k) E Ps Os :=
  go_eff (α := Unit) (fun _ => .slice (some ⟨b, 0, none⟩) (n + m) c) (fun _ => Ps) (fun _ => pt b e (putS (n * i.size) news cur) :: rr) hw hd (fun a w hp ho' hf hs' hb => by
    obtain ⟨x', hinfo, hx1, hx2, hx3⟩ := (ht _ _ he).info
    have hu := (ht _ _ hi).u
    obtain ⟨h1', _, a1, _, _, d1, _⟩ := Sep.rem hr hs'.os
    change h1' b = _ at d1
    have hbw : w.heap[b]? = _ := hs'.ino _ _ (a1 _ _ d1)
    have hl : news.length = m * i.size := hnews.1
    have hfit : n * i.size + news.length ≤ cur.length := by rw [hl, hc, ← Nat.add_mul]; exact Nat.mul_le_mul_right _ hroom
    have hrun := run_append_room (P := C.P) w t o.type e x' hu hinfo b n c cur.toArray hbw ⟨b2, o2, none⟩ m c2 news (by rw [hl, hx2]) (fun j v hj => by rw [run_addOff]; exact hnews.2 w hp ho' hs' j v hj) (oneCells_mem h1) hroom (by rw [hx2]; simpa using hfit)
    rw [hx2] at hrun
    obtain ⟨ho2, h2, h3⟩ := sat_store (C := C) (cs' := putS (n * i.size) news cur) hr hs' hb
    refine ⟨(), _, hp, ho2, ?_, h2, h3⟩
    have key : w.setRow b (cur.toArray.toList.take (n * i.size) ++ news ++ cur.toArray.toList.drop (n * i.size + news.length)).toArray = { w with heap := w.heap.setIfInBounds b (.cells (putS (n * i.size) news cur).toArray e (0, 0)) } := by
      have hlt : b < w.heap.size := (Array.getElem?_eq_some_iff.1 hbw).1
      have hgg : w.heap[b] = .cells cur.toArray e (0, 0) := (Array.getElem?_eq_some_iff.1 hbw).2
      unfold World.setRow
      congr 1
      apply Array.ext_getElem?
      intro j
      simp only [Array.getElem?_modify, Array.getElem?_setIfInBounds]
      by_cases ej : b = j
      · subst ej; simp [hlt, hgg, putS]
      · simp [ej]
    rw [key] at hrun
    simp [execOp, ho, resolve, invoke, builtin, hf.ev hs, hf.ev hx, hrun]) (fun e x => hS e) (fun _ => g)
theorem go_clear {tb : TB} (ht : TOk C.P tb) {s : Operand} {t e : TypeId} {s1 : Nat} {a1 : Bool} {z1 : Value} {y1 : Nat} {i : TI} {b oo n c : Nat} {cur : List Value} {rr : List OA}
    (ho : o.op = .call ⟨.builtin .clear, #[s], #[t]⟩) (hw : wants ops E o = some true) (hs : ev E s = some (.slice (some ⟨b, oo, none⟩) n c)) (hi : lookT tb t = some ⟨.slice e, s1, a1, z1, y1⟩) (he : lookT tb e = some i) (hz1 : oneCells (cellsL i.zero) = true) (hz : Nat.beq (cellsL i.zero).length i.size = true)
    (hd : okDst C.N o.dst = true) (hr : Rem (pt b e cur) Os rr) (hl : oo + n * i.size ≤ cur.length)
    (hS : f = true → ∀ zs w hp ho, Sat w hp ho Ps (pt b e (putS oo zs cur) :: rr) → S w)
    (g : ∀ zs, zs.length = n * i.size → Go C (.ops ops S r :: k) (setE o.dst (.tuple #[]) E) Ps (pt b e (putS oo zs cur) :: rr)) : Go C (.ops ops S (.one 0 f o r) :: k) E Ps Os := by
  have hzs : (Builtin.zeroCells i.zero.cells n).size = n * i.size := by rw [size_zeroCells, cellsL_eq]; simp [Nat.eq_of_beq_eq_true hz]
  refine go_eff (α := Unit) (fun _ => .tuple #[]) (fun _ => Ps) (fun _ => pt b e (putS oo (Builtin.zeroCells i.zero.cells n).toList cur) :: rr) hw hd (fun a w hp ho' hf hs' hb => ?_) (fun e x => hS e _) (fun _ => g _ (by simpa using hzs))
  have hu := (ht _ _ hi).u
  have hzr := (ht _ _ he).zero w
  obtain ⟨h1', _, a1, _, _, d1, _⟩ := Sep.rem hr hs'.os
  change h1' b = _ at d1
  have hbw : w.heap[b]? = _ := hs'.ino _ _ (a1 _ _ d1)
  have hone : oneCells (Builtin.zeroCells i.zero.cells n).toList = true := by
    have hm : ∀ u ∈ cellsL i.zero, u.oneCell' = true := oneCells_mem hz1
    have key : ∀ l : List Value, (∀ u ∈ l, u.oneCell' = true) → oneCells l = true := by
      intro l
      induction l with
      | nil => exact fun _ => rfl
      | cons v l ih =>
        intro h
        have h1 := h v (.head _)
        have h2 := ih fun u hu => h u (.tail _ hu)
        cases v <;> simp_all [oneCells, Value.oneCell']
    refine key _ fun u hu => ?_
    simp only [Builtin.zeroCells, Array.toList_map, List.mem_map, Array.mem_toList_iff, Array.mem_range] at hu
    obtain ⟨j, hj, rfl⟩ := hu
    have hpos : 0 < i.zero.cells.size := by
      rcases Nat.eq_zero_or_pos i.zero.cells.size with q | q
      · rw [q] at hj; omega
      · exact q
    have hlt := Nat.mod_lt j hpos
    refine hm _ ?_
    have hc : cellsL i.zero = i.zero.cells.toList := by rw [cellsL_eq]
    rw [getElem!_pos i.zero.cells _ hlt, hc]
    exact Array.getElem_mem_toList _
  obtain ⟨c', hrun, hc'⟩ := run_storeCells (P := C.P) (b := b) (ty := e) (o := oo) (Builtin.zeroCells i.zero.cells n).toList 0 cur.toArray w hbw (by simp [hzs]; omega) hone
  have : c' = (putS oo (Builtin.zeroCells i.zero.cells n).toList cur).toArray := by
    apply Array.ext'
    rw [hc']; simp [putS]
  subst this
  obtain ⟨ho2, h2, h3⟩ := sat_store (C := C) (cs' := putS oo (Builtin.zeroCells i.zero.cells n).toList cur) hr hs' hb
  refine ⟨(), _, hp, ho2, ?_, h2, h3⟩
  have hcl : (Builtin.clear_ #[t] o.type #[.slice (some ⟨b, oo, none⟩) n c]).run C.P w = .ok (.tuple #[]) { w with heap := w.heap.setIfInBounds b (.cells (putS oo (Builtin.zeroCells i.zero.cells n).toList cur).toArray e (0, 0)) } := by
    cases n with
    | zero =>
      have hz0 : (Builtin.zeroCells i.zero.cells 0).toList = [] := by apply List.eq_nil_of_length_eq_zero; simpa using hzs
      rw [hz0] at hrun ⊢
      simp only [storeCells, Sem.run_pure, Result.ok.injEq, true_and] at hrun
      rw [← hrun]
      simp [Builtin.clear_, run_und hu w]
    | succ n =>
      simp only [Builtin.clear_]
      simp only [Sem.run_bind, run_und hu w, Result.andThen_ok, hzr, hrun, Sem.run_pure, List.getElem?_toArray, List.getElem?_cons_zero]
  simp [execOp, ho, resolve, invoke, builtin, hf.ev hs, hcl]
end
/-- Where a part of a slice begins. -/
theorem sub0 (A : Option Addr) (m size : Nat) : (if m = 0 then A else A.map (·.add (0 * size))) = A := by
  split
  · rfl
  · cases A <;> simp [Addr.add]
theorem subN {b o l m size : Nat} (h : m ≠ l) : (if m = l then (some ⟨b, o, none⟩ : Option Addr) else (some (⟨b, o, none⟩ : Addr)).map (·.add (l * size))) = some ⟨b, o + l * size, none⟩ := by
  rw [if_neg h]; simp [run_addOff]
section
variable {C : Ctx} {k : List It} {E : Env} {Ps : List PA} {Os : List OA}
variable {o : Oper} {ops : Array Oper} {S : World → Prop} {r : Pl} {f : Bool}
theorem go_len_ol {α : Type} {T : Ty α} {e : Nat} {A : Option Addr} {c : Nat} {xs : List α} {rr : List OA} (h : Rem (ol T e A c xs) Os rr) (g : xs.length ≤ c → c ≤ 9223372036854775807 → Go C k E Ps Os) : Go C k E Ps Os :=
  go_ofact (φ := xs.length ≤ c ∧ c ≤ maxLen) _ h (fun _ _ ⟨_, q, _⟩ => ⟨q.2.1, q.2.2.1⟩) fun e => g e.1 (by have := e.2; simp only [maxLen] at this; omega)
theorem go_freeze_pt {b ty : Nat} {cs : List Value} {rr : List OA} (h : Rem (pt b ty cs) Os rr) (g : Go C k E (cl b 0 cs :: Ps) rr) : Go C k E Ps Os :=
  go_freeze _ (cl b 0 cs) h (fun hp h1 H _ hl q j v hj => by
    have q' : h1 b = some (.cells cs.toArray ty (0, 0)) := q
    refine cellH_le hl ?_
    simp only [cellH, q', Nat.zero_add]
    simpa using hj) g
/-- Several owned things said as one. -/
theorem go_fold (As : List OA) (B : OA) {rr : List OA} (h : Takes Os As rr) (hi : ∀ hp h, Sep hp As h → B.p hp h) (g : Go C k E Ps (B :: rr)) : Go C k E Ps Os := fun a w hp ho hf hs hb => by
  obtain ⟨h1, h2, a1, b1, c1, d, e⟩ := Sep.takes h hs.os
  exact g a w hp ho hf ⟨hs.inp, hs.ino, hs.dj, hs.ps, h1, h2, a1, b1, c1, hi _ _ d, e⟩ hb
theorem sep_one {A : OA} {hp h : Heap} (q : A.p hp h) : Sep hp [A] h := ⟨h, Heap.nil, Heap.le_refl _, Heap.nil_le _, Heap.dj_symm (Heap.nil_dj _), q, trivial⟩
/-- Ways that meet; what is named of the owned may have changed. -/
theorem go_cutO {X : Type} {c : Code} (chg : X → Env) (rest : Env) (O' : X → List OA) (On : List OA) (J : X → Prop) {rr : List OA} (hE : LookAll E rest) (hO : Takes Os On rr)
    (first : Go C (.code c :: .back (Bk C chg rest (fun _ => Ps) (fun x => O' x ++ rr) J (fun _ => 0) 1) :: k) E Ps Os)
    (then_ : ∀ x, J x → Go C k (chg x ++ rest) Ps (O' x ++ rr)) : Go C (.code c :: k) E Ps Os := go_cut chg rest _ _ J hE first then_
theorem slice_val' {tb : TB} (ht : TOk C.P tb) {t e : TypeId} {x : Operand} {lo hi mx : Option Operand} {A : Option Addr} {n c : Nat} {s1 : Nat} {a1 : Bool} {z1 : Value} {y1 : Nat} {i : TI} (ho : o.op = .slice t x lo hi mx)
    (hx : ev E x = some (.slice A n c)) (ht' : lookT tb t = some ⟨.slice e, s1, a1, z1, y1⟩) (he : lookT tb e = some i) (l h m : Nat) (v : Value)
    (hm : match mx with | none => m = c | some q => ∃ kk, ev E q = some (.int kk (m : Int))) (hh : match hi with | none => h = n ∧ mx = none | some q => ∃ kk, ev E q = some (.int kk (h : Int)))
    (hl : match lo with | none => l = 0 | some q => ∃ kk, ev E q = some (.int kk (l : Int))) (b1 : l ≤ h) (b2 : h ≤ m) (b3 : m ≤ c) (hv : Value.slice (if m = l then A else A.map (·.add (l * i.size))) (h - l) (m - l) = v) :
    ∀ a w hp ho, Fits C.N E a → Sat w hp ho Ps Os → (execOp a.eval o).run C.P w = .ok (.value v) w := by
  subst hv
  exact slice_val ht ho hx ht' he hm hh hl b1 b2 b3
theorem reads_at {tb : TB} (ht : TOk C.P tb) {t : TypeId} {i : TI} {b oo : Nat} {cs : List Value} {v : Value} (hi : lookT tb t = some i) (hA : At Ps Os b oo i.size cs) (hv : packV i.agg cs = some v) : Reads C Ps Os t ⟨b, oo, none⟩ v :=
  fun w hp ho' hs => loadVar_run ht hi hA.1 hv (hA.2 w hp ho' hs)
theorem at_any {b e oo n : Nat} {cur news : List Value} {rr : List OA} (h : Rem (pt b e cur) Os rr) (hl : news.length = n) (h3 : ∀ i v, news[i]? = some v → cur[oo + i]? = some v) : At Ps Os b oo n news :=
  ⟨hl, fun w hp ho' hs j v hj => by
    obtain ⟨h1, l1, d⟩ := h.sep hs.os
    refine cellH_world (cellH_le (l1.tr hs.ino) ?_)
    change h1 b = _ at d
    simp only [cellH, d]
    simpa using h3 _ _ hj⟩
end
theorem Spec.imp {P : Program} {f : FuncId} {args : Array Value} {Ps : List PA} {Os : List OA} {Q Q' : Value → List PA → List OA → Prop} (s : Spec P f args Ps Os Q) (h : ∀ v P O, Q v P O → Q' v P O) : Spec P f args Ps Os Q' :=
  ⟨s.fn, fun w hp ho hf a b c d => (s.calls w hp ho hf a b c d).mono fun e w' ⟨v, hp', ho', Ps', Os', e1, q, r⟩ => ⟨v, hp', ho', Ps', Os', e1, h _ _ _ q, r⟩⟩
/-! ### a part cut out -/
theorem oneCells_drop {cs : List Value} (n : Nat) (h : oneCells cs = true) : oneCells (cs.drop n) = true := oneCells_right (cs.take n) _ (by rw [List.take_append_drop]; exact h)
theorem Reps.cut {α : Type} {T : Ty α} {h : Heap} {xs : List α} {cs : List Value} (r : Reps T h xs cs) {i j : Nat} (hi : i ≤ xs.length) (hj : j ≤ xs.length) : Reps T h (xs.take i ++ xs.drop j) (cs.take (i * T.size) ++ cs.drop (j * T.size)) := by
  have h1 := (Reps.split (xs := xs.take i) (ys := xs.drop i) (by rw [List.take_append_drop]; exact r)).1
  have h2 := (Reps.split (xs := xs.take j) (ys := xs.drop j) (by rw [List.take_append_drop]; exact r)).2
  rw [List.length_take, Nat.min_eq_left hi] at h1
  rw [List.length_take, Nat.min_eq_left hj] at h2
  exact h1.app h2
theorem cut_take {n i j c s : Nat} {cs cur zs : List Value} (h1 : cur.length = c * s) (h2 : cur.take (n * s) = cs) (h3 : n ≤ c) (hi : i ≤ j) (hj : j ≤ n) (hz : zs.length = (n - (i + (n - j))) * s) (o : Nat) (ho : o = (i + (n - j)) * s) :
    (putS o zs (putS (i * s) (cs.drop (j * s)) cur)).take ((i + (n - j)) * s) = cs.take (i * s) ++ cs.drop (j * s) ∧ (putS o zs (putS (i * s) (cs.drop (j * s)) cur)).length = c * s ∧ o + (n - (i + (n - j))) * s ≤ (putS (i * s) (cs.drop (j * s)) cur).length := by
  subst ho
  have hcs : cs.length = n * s := by rw [← h2, List.length_take, h1, Nat.min_eq_left (Nat.mul_le_mul_right _ h3)]
  have hnews : (cs.drop (j * s)).length = (n - j) * s := by rw [List.length_drop, hcs, Nat.sub_mul]
  have e1 : i * s + (n - j) * s = (i + (n - j)) * s := by rw [Nat.add_mul]
  have l1 : i * s + (cs.drop (j * s)).length ≤ cur.length := by rw [hnews, e1, h1]; exact Nat.mul_le_mul_right _ (by omega)
  have l2 : (i + (n - j)) * s + zs.length ≤ (putS (i * s) (cs.drop (j * s)) cur).length := by
    rw [putS_len l1, hz, ← Nat.add_mul, h1]; exact Nat.mul_le_mul_right _ (by omega)
  refine ⟨?_, by rw [putS_len l2, putS_len l1, h1], by rw [← hz]; exact l2⟩
  rw [putS_low l2 (Nat.le_refl _), putS_take l1 (by rw [hnews, e1])]
  congr 1
  rw [← h2, List.take_take, Nat.min_eq_left (Nat.mul_le_mul_right _ (by omega))]
theorem cut_news {n j s : Nat} {cs cur : List Value} (h2 : cur.take (n * s) = cs) (o : Nat) (ho : j = n ∨ o = j * s) : ∀ i v, (cs.drop (j * s))[i]? = some v → cur[o + i]? = some v := by
  intro i v h
  rw [List.getElem?_drop, ← h2, List.getElem?_take] at h
  split at h
  · rename_i hlt
    rcases ho with rfl | rfl
    · omega
    · exact h
  · cases h
end Go.Proofs.Ytdkfpgdfjnaciaa.SL
