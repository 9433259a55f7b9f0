/- copy, append of zeros, the library's word on two slices' overlapping. -/
import Derived.Test.YtdkfpgdfjnaciaaS9
import Derived.Lib.Overlaps
set_option linter.unusedVariables false
set_option linter.unusedSimpArgs false
namespace Go.Proofs.Ytdkfpgdfjnaciaa.SL
section
variable {C : Ctx} {k : List It} {E : Env} {Ps : List PA} {Os : List OA}
variable {o : Oper} {ops : Array Oper} {S : World → Prop} {r : Pl} {f : Bool}
theorem go_copy {tb : TB} (ht : TOk C.P tb) {d x : Operand} {t e : TypeId} {s1 : Nat} {a1 : Bool} {z1 : Value} {y1 : Nat} {i : TI} {b oo dn dc sn sc b2 o2 : Nat} {cur news : List Value} {rr : List OA}
    (ho : o.op = .call ⟨.builtin .copy, #[d, x], #[t, t]⟩) (hw : wants ops E o = some true) (hd' : ev E d = some (.slice (some ⟨b, oo, none⟩) dn dc)) (hx : ev E x = some (.slice (some ⟨b2, o2, none⟩) sn sc)) (hi : lookT tb t = some ⟨.slice e, s1, a1, z1, y1⟩) (he : lookT tb e = some i)
    (hd : okDst C.N o.dst = true) (hr : Rem (pt b e cur) Os rr) (m : Nat) (hm : Nat.min sn dn = m) (hnews : At Ps Os b2 o2 (m * i.size) news) (h1 : oneCells news = true) (hl : oo + m * i.size ≤ cur.length)
    (hS : f = true → ∀ w hp ho, Sat w hp ho Ps (pt b e (putS oo news cur) :: rr) → S w)
    (g : Go C (.ops ops S r :: k) (setE o.dst (.int .i64 (m : Int)) E) Ps (pt b e (putS oo news cur) :: rr)) : Go C (.ops ops S (.one 0 f o r) :: k) E Ps Os :=
  go_eff (α := Unit) (fun _ => .int .i64 (m : Int)) (fun _ => Ps) (fun _ => pt b e (putS oo news cur) :: rr) hw hd (fun a w hp ho' hf hs hb => by
    have hu := (ht _ _ hi).u
    have hsz := (ht _ _ he).size w
    obtain ⟨h1', _, la, _, _, d1, _⟩ := Sep.rem hr hs.os
    change h1' b = _ at d1
    have hbw : w.heap[b]? = _ := hs.ino _ _ (la _ _ d1)
    have hlen : news.length = m * i.size := hnews.1
    have hload : (loadCells ⟨b2, o2, none⟩ (m * i.size)).run C.P w = .ok news.toArray w := by
      have := loadCells_run (P := C.P) (w := w) (b := b2) (m * i.size) 0 o2 news #[] hlen (fun j v hj => by rw [Nat.zero_add]; exact hnews.2 w hp ho' hs j v hj)
      simpa [loadCells] using this
    obtain ⟨c', hrun, hc'⟩ := run_storeCells (P := C.P) (b := b) (ty := e) (o := oo) news 0 cur.toArray w hbw (by rw [hlen]; simpa using hl) h1
    have : c' = (putS oo news cur).toArray := by apply Array.ext'; rw [hc']; simp [putS]
    subst this
    obtain ⟨ho2, h2, h3⟩ := sat_store (C := C) (cs' := putS oo news cur) hr hs hb
    refine ⟨(), _, hp, ho2, ?_, h2, h3⟩
    have hcopy : (Builtin.copy_ #[t, t] o.type #[.slice (some ⟨b, oo, none⟩) dn dc, .slice (some ⟨b2, o2, none⟩) sn sc]).run C.P w = .ok (.int .i64 (m : Int)) { w with heap := w.heap.setIfInBounds b (.cells (putS oo news cur).toArray e (0, 0)) } := by
      simp [Builtin.copy_, run_und hu w, hsz, Builtin.lenOf, Builtin.firstCells, hm, hload, hrun, goInt]
    simp [execOp, ho, resolve, invoke, builtin, hf.ev hd', hf.ev hx, hcopy]) (fun e x => hS e) (fun _ => g)
/-- append of zeros where there is no room: a new row; the old one stays. -/
theorem go_append_zeros {tb : TB} (ht : TOk C.P tb) {s x : Operand} {t t2 e : TypeId} {s1 : Nat} {a1 : Bool} {z1 : Value} {y1 : Nat} {kk : IntKind} {s2 : Nat} {a2 : Bool} {z2 : Value} {y2 : Nat} {i : TI} {b n c m : Nat} {old : List Value}
    (ho : o.op = .call ⟨.builtin .append, #[s, x], #[t, t2]⟩) (hw : wants ops E o = some true) (hs : ev E s = some (.slice (some ⟨b, 0, none⟩) n c)) (hx : ev E x = some (.int .i64 (m : Int))) (hi : lookT tb t = some ⟨.slice e, s1, a1, z1, y1⟩) (hi2 : lookT tb t2 = some ⟨.int kk, s2, a2, z2, y2⟩) (he : lookT tb e = some i)
    (hz : Nat.beq (cellsL i.zero).length i.size = true) (hy : Nat.ble i.bytes 100000 = true) (hd : okDst C.N o.dst = true) (hold : At Ps Os b 0 (n * i.size) old) (hc : c < n + m) (hn : n + m ≤ 100000000) (hpos : 0 < m) (hsz0 : Nat.ble 1 i.size = true)
    (hS : f = true → ∀ (b' : Nat) (cur : List Value) w hp ho, Sat w hp ho Ps (pt b' e cur :: Os) → S w)
    (g : ∀ (b' c' : Nat) (cur : List Value), cur.length = c' * i.size → cur.take (n * i.size) = old → n + m ≤ c' → c' ≤ maxLen → Go C (.ops ops S r :: k) (setE o.dst (.slice (some ⟨b', 0, none⟩) (n + m) c') E) Ps (pt b' e cur :: Os)) : Go C (.ops ops S (.one 0 f o r) :: k) E Ps Os := by
  have hzs : (i.zero.cells).size = i.size := by rw [cellsL_eq]; simpa using Nat.eq_of_beq_eq_true hz
  let cur : Nat → List Value := fun c' => old ++ (Builtin.zeroCells i.zero.cells m).toList ++ (Builtin.zeroCells i.zero.cells (c' - (n + m))).toList
  have hcl : ∀ c', n + m ≤ c' → (cur c').length = c' * i.size := fun c' h => by
    simp only [cur, List.length_append, Array.length_toList, size_zeroCells, hzs, hold.1, ← Nat.add_mul]
    congr 1; omega
  have hct : ∀ c', (cur c').take (n * i.size) = old := fun c' => by
    simp only [cur, List.append_assoc]
    rw [← hold.1, List.take_left]
  refine go_eff (α := { x : Nat × Nat // n + m ≤ x.2 ∧ x.2 ≤ maxLen }) (fun x => .slice (some ⟨x.1.1, 0, none⟩) (n + m) x.1.2) (fun _ => Ps) (fun x => pt x.1.1 e (cur x.1.2) :: Os) hw hd (fun a w hp ho' hf hs' hb => ?_) (fun e x => hS e _ _) (fun x => g x.1.1 x.1.2 _ (hcl _ x.2.1) (hct _) x.2.1 x.2.2)
  have hu := (ht _ _ hi).u
  have hu2 := (ht _ _ hi2).u
  obtain ⟨xi, q1, q2, q3, q4⟩ := (ht _ _ he).info
  have hby := Nat.le_of_ble_eq_true hy
  have hsz1 := Nat.le_of_ble_eq_true hsz0
  have hcap := grownCap_ge w (n + m) c e
  have hcapm := grownCap_le_maxLen w (n + m) c e (by simp only [maxLen]; omega)
  obtain ⟨ho2, h2, h3⟩ := sat_alloc (C := C) (w := { w with drawn := w.drawn + 1 }) ⟨hs'.inp, hs'.ino, hs'.dj, hs'.ps, hs'.os⟩ hb.drew (pt w.heap.size e (cur (grownCap w (n + m) c e))) (.cells (cur (grownCap w (n + m) c e)).toArray e) (fun h q => q)
  refine ⟨⟨(w.heap.size, grownCap w (n + m) c e), hcap, hcapm⟩, _, hp, ho2, ?_, h2, h3⟩
  have hfo := run_firstCells_some (P := C.P) w.drew xi.size n ⟨b, 0, none⟩ n c old (by rw [q3]; exact hold.1) (fun j v hj => by rw [run_addOff]; exact hold.2 w hp ho' hs' j v hj)
  have hwm : IntKind.i64.wrap (m : Int) = (m : Int) := wrap_i64 (by omega) (by omega)
  have hmb : m * i.bytes ≤ 100000000 * 100000 := Nat.mul_le_mul (by omega) hby
  have hmb' : ¬ (281474976710656 < (m : Int) * (i.bytes : Int)) := by
    rw [← Int.natCast_mul]; omega
  have hnb : (n + m) * i.bytes ≤ 100000000 * 100000 := Nat.mul_le_mul hn hby
  have h48 : ¬ (281474976710656 < Builtin.nextslicecap (n + m) c * i.bytes) := by
    have := growslice_fits hc (show (n + m) * i.bytes ≤ 140737488355328 by omega)
    omega
  have hnc : ¬ (n + m ≤ c) := by omega
  have h63 : ¬ (9223372036854775807 < ((n : Int) + (m : Int))) := by omega
  have hm0 : ¬ (m * i.size = 0) := by
    have := Nat.mul_le_mul hpos hsz1
    omega
  have hrun : (Builtin.append_ #[t, t2] o.type #[.slice (some ⟨b, 0, none⟩) n c, .int .i64 (m : Int)]).run C.P w = .ok (.slice (some ⟨w.heap.size, 0, none⟩) (n + m) (grownCap w (n + m) c e)) (w.drew.alloc (.cells (cur (grownCap w (n + m) c e)).toArray e)) := by
    rw [q3] at hfo
    simp [Builtin.append_, run_underlying hu, run_underlying hu2, sizeOf, typeInfo, zeroValue, q1, q2, q3, q4, asInt, asIntOf, hwm, hmb', h48, hnc, h63, hm0, Question.forced, hfo, newRow, grownCap, show ¬ ((m : Int) < 0) by omega]
    congr 2
    apply Array.ext'
    simp [cur]
  simp [execOp, ho, resolve, invoke, builtin, hf.ev hs, hf.ev hx, hrun]
  rfl
/-- A call of a library function that the model answers itself. -/
theorem ext_val {c : Call} {g : FuncId} {l : List Value} {fn : Func} {e : Array Value → Sem Value} {v : Value} (hfn : C.P.funcs[g]? = some fn) (hname : (fn.name == "runtime.NumGoroutine") = false) (hb : fn.body.isNone = true) (hnx : Extern.findNext fn = none) (he : Extern.find fn = some e)
    (ho : o.op = .call c) (hc : calleeOf E c = some (g, l)) (hrun : ∀ w hp ho, Sat w hp ho Ps Os → (e l.toArray).run C.P w = .ok v w) :
    ∀ a w hp ho, Fits C.N E a → Sat w hp ho Ps Os → (execOp a.eval o).run C.P w = .ok (.value v) w := fun a w hp ho' hf hs => by
  obtain ⟨callee, args, tys⟩ := c
  unfold calleeOf at hc
  simp only at hc
  split at hc
  · rename_i x
    split at hc
    · rename_i g' first cap e1
      split at hc
      · rename_i l' e2
        cases hc
        have := evs_eq hf e2
        have hargs : first ++ args.map a.eval ++ cap = (first.toList ++ (l' ++ cap.toList)).toArray := by
          apply Array.ext'
          simp [← this]
        have hcf := run_callFunc_extern (P := C.P) hfn hname hb hnx he (first ++ args.map a.eval ++ cap) w
        rw [hargs, hrun w hp ho' hs] at hcf
        simp only [execOp, ho, resolve, hf.ev e1, Deferred.ofValue, invoke, Sem.run_bind, Sem.run_pure, Result.andThen_ok, hargs, hcf]
      · cases hc
    · cases hc
  · cases hc
/-- Two slices in two blocks of one's own do not overlap. -/
theorem apart_run {tb : TB} (ht : TOk C.P tb) {tS tR e : TypeId} {s1 : Nat} {a1 : Bool} {z1 : Value} {y1 : Nat} {i : TI} (hi : lookT tb tS = some ⟨.slice e, s1, a1, z1, y1⟩) (he : lookT tb e = some i) {ba bb ta tb' oa ob la ca lb cb : Nat} {csa csb : List Value} {r1 r2 : List OA} (ha : Rem (pt ba ta csa) Os r1) (hb : Rem (pt bb tb' csb) r1 r2) (hne : csb ≠ []) :
    ∀ w hp ho, Sat w hp ho Ps Os → (Extern.SlicesOverlaps.overlaps #[tS, tS] #[tR] #[.slice (some ⟨ba, oa, none⟩) la ca, .slice (some ⟨bb, ob, none⟩) lb cb]).run C.P w = .ok (.bool false) w := fun w hp ho hs => by
  obtain ⟨g1, g2, x1, x2, x3, x4, x5⟩ := Sep.rem ha hs.os
  obtain ⟨k1, k2, y1', y2, y3, y4, y5⟩ := Sep.rem hb x5
  change g1 ba = _ at x4
  change k1 bb = _ at y4
  have hn : ba ≠ bb := fun q => by
    subst q
    rcases x3 ba with z | z
    · rw [x4] at z; cases z
    · rw [y1' _ _ y4] at z; cases z
  have wa : w.heap[ba]? = _ := hs.ino _ _ (x1 _ _ x4)
  have wb : w.heap[bb]? = _ := hs.ino _ _ (x2 _ _ (y1' _ _ y4))
  refine Lib.run_overlaps_apart w tS tR e (ht _ _ hi).u i.size (ht _ _ he).size ⟨ba, oa, none⟩ ⟨bb, ob, none⟩ la ca lb cb hn ta tb' csa.length csb.length ?_ ?_ ?_ ?_ ?_
  · simp [World.shape?, wa]
  · simp [World.shape?, wb]
  · cases csb with
    | nil => exact absurd rfl hne
    | cons _ _ => simp
  · simp [World.frozen?, wa]
  · simp [World.frozen?, wa]
end
end Go.Proofs.Ytdkfpgdfjnaciaa.SL
