/- The judgement's rules for lists: append, literals, loads and stores in a list of one's own. -/
import Derived.Test.YtdkfpgdfjnaciaaS5
set_option linter.unusedVariables false
set_option linter.unusedSimpArgs false
namespace Go.Proofs.Ytdkfpgdfjnaciaa.SL
/-- What is read of a slice, as cells in a row. -/
theorem Sl.cells {α : Type} {T : Ty α} {h : Heap} {B : Option Addr} {c : Nat} {ys : List α} (s : Sl T h B c ys) :
    ∃ news, Reps T h ys news ∧ (0 < ys.length → ∃ b o, B = some ⟨b, o, none⟩ ∧ ∀ j v, news[j]? = some v → cellH h b (o + j) = some v) := by
  cases ys with
  | nil => exact ⟨[], rfl, fun q => by simp at q⟩
  | cons y ys =>
    obtain ⟨b, o, _, e, _, _⟩ := s.2.2.2 0 y (by simp)
    have key : ∀ (zs : List α) (m : Nat), (∀ j x, zs[j]? = some x → ∃ cs, T.rep h x cs ∧ ∀ i v, cs[i]? = some v → cellH h b (o + ((m + j) * T.size + i)) = some v) →
        ∃ news, Reps T h zs news ∧ ∀ j v, news[j]? = some v → cellH h b (o + (m * T.size + j)) = some v := by
      intro zs
      induction zs with
      | nil => exact fun m _ => ⟨[], rfl, fun j v q => by simp at q⟩
      | cons z zs ih =>
        intro m hz
        obtain ⟨cs, r, hc⟩ := hz 0 z (by simp)
        obtain ⟨news, rn, hn⟩ := ih (m + 1) (fun j x hj => by
          obtain ⟨cs, r, hc⟩ := hz (j + 1) x (by simpa using hj)
          exact ⟨cs, r, fun i v hi => by have := hc i v hi; rwa [show m + 1 + j = m + (j + 1) from by omega]⟩)
        refine ⟨cs ++ news, ⟨cs, news, rfl, r, rn⟩, fun j v hj => ?_⟩
        by_cases hlt : j < cs.length
        · rw [List.getElem?_append_left hlt] at hj
          have := hc j v hj
          simpa using this
        · rw [List.getElem?_append_right (by omega)] at hj
          have := hn _ v hj
          have hl := T.len r
          rw [show o + (m * T.size + j) = o + ((m + 1) * T.size + (j - cs.length)) from by rw [Nat.add_mul]; omega]
          exact this
    obtain ⟨news, rn, hn⟩ := key (y :: ys) 0 (fun j x hj => by
      obtain ⟨b', o', cs, e', r, hc⟩ := s.2.2.2 j x hj
      rw [e] at e'; cases e'
      exact ⟨cs, r, fun i v hi => by rw [Nat.zero_add]; exact hc i v hi⟩)
    exact ⟨news, rn, fun _ => ⟨b, o, e, fun j v hj => by have := hn j v hj; simpa using this⟩⟩

section
variable {C : Ctx} {k : List It} {E : Env} {Ps : List PA} {Os : List OA}
variable {o : Oper} {ops : Array Oper} {S : World → Prop} {r : Pl} {f : Bool}
theorem append_exec {N : NN} {a : Act} (hf : Fits N E a) {P : Program} {s x : Operand} {t1 t2 : TypeId} {u v y : Value} {w w' : World} (ho : o.op = .call ⟨.builtin .append, #[s, x], #[t1, t2]⟩) (hs : ev E s = some u) (hx : ev E x = some v)
    (h : (Builtin.append_ #[t1, t2] o.type #[u, v]).run P w = .ok y w') : (execOp a.eval o).run P w = .ok (.value y) w' := by
  simp [execOp, ho, resolve, invoke, builtin, hf.ev hs, hf.ev hx, h]
theorem small_bytes {n m y : Nat} (h : n + m ≤ 1000000000) (hy : Nat.ble y 100000 = true) : (n + m) * y ≤ 140737488355328 := by
  have h1 := Nat.le_of_ble_eq_true hy
  have := Nat.mul_le_mul h h1
  omega
/-- append of a list that is read. -/
theorem go_appendN {α : Type} {T : Ty α} {tb : TB} (ht : TOk C.P tb) {s x : Operand} {t e : TypeId} {s1 : Nat} {a1 : Bool} {z1 : Value} {y1 : Nat} {i : TI} {A B : Option Addr} {c c2 : Nat} {xs ys : List α} {rr : List OA}
    (ho : o.op = .call ⟨.builtin .append, #[s, x], #[t, t]⟩) (hw : wants ops E o = some true) (hs : ev E s = some (.slice A xs.length c)) (hx : ev E x = some (.slice B ys.length c2)) (hi : lookT tb t = some ⟨.slice e, s1, a1, z1, y1⟩) (he : lookT tb e = some i)
    (hz : Nat.beq (cellsL i.zero).length i.size = true) (hy : Nat.ble i.bytes 100000 = true) (hd : okDst C.N o.dst = true)
    (hr : Rem (ol T e A c xs) Os rr) (hsz : T.size = i.size) (hm : sl T B c2 ys ∈ Ps) (hn : xs.length + ys.length ≤ 1000000000)
    (hS : f = true → ∀ A' c' w hp ho, Sat w hp ho Ps (ol T e A' c' (xs ++ ys) :: rr) → S w)
    (g : ∀ A' c', Go C (.ops ops S r :: k) (setE o.dst (.slice A' (xs ++ ys).length c') E) Ps (ol T e A' c' (xs ++ ys) :: rr)) : Go C (.ops ops S (.one 0 f o r) :: k) E Ps Os :=
  go_eff (α := Option Addr × Nat) (fun q => .slice q.1 (xs ++ ys).length q.2) (fun _ => Ps) (fun q => ol T e q.1 q.2 (xs ++ ys) :: rr) hw hd (fun a w hp ho' hf hs' hb => by
    obtain ⟨news, rn, hnews⟩ := Sl.cells (hs'.ps _ hm)
    obtain ⟨g1, g2, la, lb, ldj, ⟨cs, lrow, lreps⟩, lsep⟩ := Sep.rem hr hs'.os
    have hs2 : Sat w hp ho' Ps (row e i.size A xs.length c cs :: rr) := ⟨hs'.inp, hs'.ino, hs'.dj, hs'.ps, g1, g2, la, lb, ldj, by rw [← hsz]; exact lrow, lsep⟩
    obtain ⟨A', c', w', ho2, h1, h2, h3⟩ := sat_append ht (ty := o.type) hi he .here hs2 hb (B := B) (m := ys.length) (c2 := c2) (news := news) (by rw [← hsz]; exact rn.len) (fun hp0 => by
        obtain ⟨b, oo, e1, hc⟩ := hnews hp0
        exact ⟨_, e1, fun j v hj => by rw [run_addOff]; exact cellH_world (cellH_le hs'.inp (hc j v hj))⟩) rn.one (Nat.eq_of_beq_eq_true hz) (small_bytes hn hy) (by simp only [maxLen]; omega)
    refine ⟨(A', c'), w', hp, ho2, ?_, ?_, h3⟩
    · rw [List.length_append]; exact append_exec hf ho hs hx h1
    · obtain ⟨k1, k2, ka, kb, kdj, krow, ksep⟩ := h2.os
      refine ⟨h2.inp, h2.ino, h2.dj, h2.ps, k1, k2, ka, kb, kdj, ⟨cs ++ news, ?_, lreps.app rn⟩, ksep⟩
      rw [hsz, List.length_append]; exact krow) (fun q x => hS q x.1 x.2) (fun q => g q.1 q.2)
/-- append of one, whose memory is only read. -/
theorem go_append1 {α : Type} {T : Ty α} {tb : TB} (ht : TOk C.P tb) {s x : Operand} {t e : TypeId} {s1 : Nat} {a1 : Bool} {z1 : Value} {y1 : Nat} {i : TI} {A : Option Addr} {c b c2 : Nat} {xs : List α} (y : α) {cs : List Value} {rr r2 : List OA}
    (ho : o.op = .call ⟨.builtin .append, #[s, x], #[t, t]⟩) (hw : wants ops E o = some true) (hs : ev E s = some (.slice A xs.length c)) (hx : ev E x = some (.slice (some ⟨b, 0, none⟩) 1 c2)) (hi : lookT tb t = some ⟨.slice e, s1, a1, z1, y1⟩) (he : lookT tb e = some i)
    (hz : Nat.beq (cellsL i.zero).length i.size = true) (hy : Nat.ble i.bytes 100000 = true) (hd : okDst C.N o.dst = true)
    (hr : Rem (ol T e A c xs) Os rr) (hr2 : Rem (pt b e cs) rr r2) (hsz : T.size = i.size) (hm : Ent Ps (rp T y cs)) (hn : xs.length < 1000000000)
    (hS : f = true → ∀ A' c' w hp ho, Sat w hp ho Ps (ol T e A' c' (xs ++ [y]) :: r2) → S w)
    (g : ∀ A' c', Go C (.ops ops S r :: k) (setE o.dst (.slice A' (xs ++ [y]).length c') E) Ps (ol T e A' c' (xs ++ [y]) :: r2)) : Go C (.ops ops S (.one 0 f o r) :: k) E Ps Os :=
  go_eff (α := Option Addr × Nat) (fun q => .slice q.1 (xs ++ [y]).length q.2) (fun _ => Ps) (fun q => ol T e q.1 q.2 (xs ++ [y]) :: r2) hw hd (fun a w hp ho' hf hs' hb => by
    have hrep : T.rep hp y cs := hm hp hs'.ps
    obtain ⟨g1, g2, la, lb, ldj, ⟨ds, lrow, lreps⟩, lsep⟩ := Sep.rem hr hs'.os
    obtain ⟨g3, g4, la2, lb2, ldj2, lpt, lsep2⟩ := Sep.rem hr2 lsep
    have lpt' : g3 b = some (.cells cs.toArray e (0, 0)) := lpt
    have hs2 : Sat w hp ho' Ps (row e i.size A xs.length c ds :: r2) := ⟨hs'.inp, hs'.ino, hs'.dj, hs'.ps, g1, g4, la, lb2.tr lb, Heap.dj_le ldj (Heap.le_refl _) lb2, by rw [← hsz]; exact lrow, lsep2⟩
    obtain ⟨A', c', w', ho2, h1, h2, h3⟩ := sat_append ht (ty := o.type) hi he .here hs2 hb (B := some ⟨b, 0, none⟩) (m := 1) (c2 := c2) (news := cs) (by rw [T.len hrep, hsz, Nat.one_mul]) (fun _ => ⟨_, rfl, fun j v hj => by
        rw [run_addOff, Nat.zero_add]
        refine cellH_world (cellH_le (la2.tr (lb.tr hs'.ino)) ?_)
        simp only [cellH, lpt']; simpa using hj⟩) (T.one hrep) (Nat.eq_of_beq_eq_true hz) (small_bytes (by omega) hy) (by simp only [maxLen]; omega)
    refine ⟨(A', c'), w', hp, ho2, ?_, ?_, h3⟩
    · rw [List.length_append]; exact append_exec hf ho hs hx h1
    · obtain ⟨k1, k2, ka, kb, kdj, krow, ksep⟩ := h2.os
      refine ⟨h2.inp, h2.ino, h2.dj, h2.ps, k1, k2, ka, kb, kdj, ⟨ds ++ cs, ?_, lreps.app (Reps.single hrep)⟩, ksep⟩
      rw [hsz, List.length_append]; exact krow) (fun q x => hS q x.1 x.2) (fun q => g q.1 q.2)
/-- append of one, whose memory is owned. -/
theorem go_append1d {α : Type} {T : Ty α} {tb : TB} (ht : TOk C.P tb) {s x : Operand} {t e : TypeId} {s1 : Nat} {a1 : Bool} {z1 : Value} {y1 : Nat} {i : TI} {A : Option Addr} {c b c2 : Nat} {xs : List α} (y : α) {cs : List Value} {rr r2 r3 : List OA}
    (ho : o.op = .call ⟨.builtin .append, #[s, x], #[t, t]⟩) (hw : wants ops E o = some true) (hs : ev E s = some (.slice A xs.length c)) (hx : ev E x = some (.slice (some ⟨b, 0, none⟩) 1 c2)) (hi : lookT tb t = some ⟨.slice e, s1, a1, z1, y1⟩) (he : lookT tb e = some i)
    (hz : Nat.beq (cellsL i.zero).length i.size = true) (hy : Nat.ble i.bytes 100000 = true) (hd : okDst C.N o.dst = true)
    (hr : Rem (dl T e A c xs) Os rr) (hr2 : Rem (pt b e cs) rr r2) (hr3 : Rem (vo T y cs) r2 r3) (hsz : T.size = i.size) (hn : xs.length < 1000000000)
    (hS : f = true → ∀ A' c' w hp ho, Sat w hp ho Ps (dl T e A' c' (xs ++ [y]) :: r3) → S w)
    (g : ∀ A' c', Go C (.ops ops S r :: k) (setE o.dst (.slice A' (xs ++ [y]).length c') E) Ps (dl T e A' c' (xs ++ [y]) :: r3)) : Go C (.ops ops S (.one 0 f o r) :: k) E Ps Os :=
  go_eff (α := Option Addr × Nat) (fun q => .slice q.1 (xs ++ [y]).length q.2) (fun _ => Ps) (fun q => dl T e q.1 q.2 (xs ++ [y]) :: r3) hw hd (fun a w hp ho' hf hs' hb => by
    obtain ⟨g1, g2, la, lb, ldj, ⟨ds, f1, f2, fa, fb, fdj, lrow, lreps, lwr⟩, lsep⟩ := Sep.rem hr hs'.os
    obtain ⟨g3, g4, la2, lb2, ldj2, lpt, lsep2⟩ := Sep.rem hr2 lsep
    obtain ⟨g5, g6, la3, lb3, ldj3, lvo, lsep3⟩ := Sep.rem hr3 lsep2
    obtain ⟨g7, l7, w7, lvo'⟩ := lvo
    have lpt' : g3 b = some (.cells cs.toArray e (0, 0)) := lpt
    let R1 : OA := ⟨fun _ h => ∃ h1 : Heap, h1.le h ∧ Wr h1 ∧ Reps T h1 xs ds, fun _ q => q⟩
    have d12 : g1.dj g4 := Heap.dj_le ldj (Heap.le_refl _) lb2
    have hs2 : Sat w hp ho' Ps (row e i.size A xs.length c ds :: R1 :: vo T y cs :: r3) := ⟨hs'.inp, hs'.ino, hs'.dj, hs'.ps, f1, f2.add g4, fa.tr la, Heap.add_le (fb.tr la) (lb2.tr lb),
      Heap.dj_symm (Heap.add_dj (Heap.dj_symm fdj) (Heap.dj_symm (Heap.dj_le d12 fa (Heap.le_refl _)))), by rw [← hsz]; exact lrow,
      f2, g4, Heap.le_add_left _ _, Heap.le_add_right (Heap.dj_le d12 fb (Heap.le_refl _)), Heap.dj_le d12 fb (Heap.le_refl _), ⟨f2, Heap.le_refl _, lwr, lreps⟩, g5, g6, la3, lb3, ldj3, ⟨g7, l7, w7, lvo'⟩, lsep3⟩
    obtain ⟨A', c', w', ho2, h1, h2, h3⟩ := sat_append ht (ty := o.type) hi he .here hs2 hb (B := some ⟨b, 0, none⟩) (m := 1) (c2 := c2) (news := cs) (by rw [T.len lvo', hsz, Nat.one_mul]) (fun _ => ⟨_, rfl, fun j v hj => by
        rw [run_addOff, Nat.zero_add]
        refine cellH_world (cellH_le (la2.tr (lb.tr hs'.ino)) ?_)
        simp only [cellH, lpt']; simpa using hj⟩) (T.one lvo') (Nat.eq_of_beq_eq_true hz) (small_bytes (by omega) hy) (by simp only [maxLen]; omega)
    refine ⟨(A', c'), w', hp, ho2, ?_, ?_, h3⟩
    · rw [List.length_append]; exact append_exec hf ho hs hx h1
    · obtain ⟨k1, k2, ka, kb, kdj, krow, m1, m2, ma, mb, mdj, mreps, n1, n2, na, nb, ndj, nvo, nsep⟩ := h2.os
      obtain ⟨m3, lm3, wm3, mreps'⟩ := mreps
      obtain ⟨n3, ln3, wn3, nvo'⟩ := nvo
      have dk : k1.dj m2 := Heap.dj_le kdj (Heap.le_refl _) mb
      have dm : m1.dj n1 := Heap.dj_le mdj (Heap.le_refl _) na
      have dx : m1.dj n2 := Heap.dj_le mdj (Heap.le_refl _) nb
      have dy : k1.dj m1 := Heap.dj_le kdj (Heap.le_refl _) ma
      have dz : k1.dj n1 := Heap.dj_le dk (Heap.le_refl _) na
      have dw : k1.dj n2 := Heap.dj_le dk (Heap.le_refl _) nb
      have d3 : k1.dj (m3.add n3) := Heap.dj_symm (Heap.add_dj (Heap.dj_symm (Heap.dj_le dy (Heap.le_refl _) lm3)) (Heap.dj_symm (Heap.dj_le dz (Heap.le_refl _) ln3)))
      have lmn : (m3.add n3).le ho2 := Heap.add_le (lm3.tr (ma.tr kb)) (ln3.tr (na.tr (mb.tr kb)))
      have dm3 : m3.dj n3 := Heap.dj_le dm lm3 ln3
      refine ⟨h2.inp, h2.ino, h2.dj, h2.ps, k1.add (m3.add n3), n2, Heap.add_le ka lmn, nb.tr (mb.tr kb), Heap.add_dj dw (Heap.add_dj (Heap.dj_le dx lm3 (Heap.le_refl _)) (Heap.dj_le ndj ln3 (Heap.le_refl _))),
        ⟨ds ++ cs, k1, m3.add n3, Heap.le_add_left _ _, Heap.le_add_right d3, d3, ?_, (mreps'.up (Heap.le_add_left _ _)).app (Reps.single (T.up (Heap.le_add_right dm3) nvo')), wm3.add wn3⟩, nsep⟩
      rw [hsz, List.length_append]; exact krow) (fun q x => hS q x.1 x.2) (fun q => g q.1 q.2)
end

/-! ### literals -/
def appO {α : Type} : List α → List α → Option (List α)
  | [], b => some b
  | x :: a, b => match appO a b with
    | some l => some (x :: l)
    | none => none
theorem appO_eq {α : Type} : ∀ (a b : List α), appO a b = some (a ++ b)
  | [], _ => rfl
  | x :: a, b => by simp [appO, appO_eq a b]
def bcells (size : Nat) (E : Env) : Nat → List (Nat × Operand) → Option (List Value)
  | _, [] => some []
  | k, (j, x) :: r => cond (Nat.beq j k) (match ev E x with
    | none => none
    | some v => match takeL size (cellsL v) with
      | none => none
      | some a => cond (Nat.beq (cellsL v).length size) (match bcells size E (k + 1) r with
        | none => none
        | some b => appO a b) none) none
theorem foldl_set (off : Nat) : ∀ (l : List Value) (kk : Nat) (cells : Array Value), off + kk + l.length ≤ cells.size →
    ((l.zipIdx kk).foldl (fun cs (p : Value × Nat) => cs.setIfInBounds (off + p.2) p.1) cells).toList = cells.toList.take (off + kk) ++ (l ++ cells.toList.drop (off + kk + l.length))
  | [], kk, cells, _ => by simp
  | v :: l, kk, cells, h => by
    simp only [List.length_cons] at h
    simp only [List.zipIdx_cons, List.foldl_cons]
    rw [foldl_set off l (kk + 1) _ (by simp; omega)]
    have hx : (cells.setIfInBounds (off + kk) v).toList = cells.toList.set (off + kk) v := by simp
    rw [hx, show off + (kk + 1) = off + kk + 1 from by omega, List.take_succ_eq_append_getElem (by simp; omega)]
    simp only [List.getElem_set_self, List.append_assoc, List.cons_append, List.nil_append, List.length_cons]
    rw [List.take_set_of_le (by omega), List.drop_set_of_lt (by omega), show off + kk + 1 + l.length = off + kk + (l.length + 1) from by omega]
theorem fill_cells (off : Nat) (v : Value) (cells : Array Value) (h : off + (cellsL v).length ≤ cells.size) :
    (v.cells.zipIdx.foldl (fun cs (c, j) => cs.setIfInBounds (off + j) c) cells).toList = cells.toList.take off ++ (cellsL v ++ cells.toList.drop (off + (cellsL v).length)) := by
  have := foldl_set off (cellsL v) 0 cells (by simpa using h)
  rw [← Array.foldl_toList, Array.toList_zipIdx, cellsL_eq]
  simpa using this
theorem fill_cells' (off : Nat) (v : Value) (cells : Array Value) (pre m rest : List Value) (hc : cells.toList = pre ++ (m ++ rest)) (h1 : pre.length = off) (h2 : m.length = (cellsL v).length) :
    (v.cells.zipIdx.foldl (fun cs p => cs.setIfInBounds (off + p.2) p.1) cells).toList = pre ++ (cellsL v ++ rest) := by
  have hs : cells.size = pre.length + (m.length + rest.length) := by rw [← Array.length_toList, hc]; simp
  have := fill_cells off v cells (by omega)
  rw [hc] at this
  refine this.trans ?_
  rw [← h1, ← h2, List.take_left, ← List.append_assoc pre m rest, ← List.length_append, List.drop_left]
theorem fill_run {N : NN} {E : Env} {a : Act} (hf : Fits N E a) {size : Nat} : ∀ (l : List (Nat × Operand)) (kk : Nat) (cs : List Value) (cells : Array Value) (pre mid post : List Value), bcells size E kk l = some cs →
    cells.toList = pre ++ (mid ++ post) → pre.length = kk * size → mid.length = cs.length →
    ∃ out, Instr.fill (fun i => some (i * size, size)) cells (l.map fun p => (p.1, a.eval p.2)) = some out ∧ out.toList = pre ++ (cs ++ post)
  | [], kk, cs, cells, pre, mid, post, h, hc, _, hm => by
    simp [bcells] at h
    subst h
    have : mid = [] := List.eq_nil_of_length_eq_zero (by simpa using hm)
    subst this
    exact ⟨cells, rfl, by simpa using hc⟩
  | (j, x) :: l, kk, cs, cells, pre, mid, post, h, hc, hp, hm => by
    simp only [bcells] at h
    cases hj : Nat.beq j kk with
    | false => rw [hj] at h; cases h
    | true =>
      rw [hj] at h
      have := Nat.eq_of_beq_eq_true hj
      subst this
      simp only [cond_true] at h
      split at h
      · cases h
      · rename_i v e1
        split at h
        · cases h
        · rename_i a0 e2
          cases hq : Nat.beq (cellsL v).length size with
          | false => rw [hq] at h; cases h
          | true =>
            rw [hq] at h
            have hlen := Nat.eq_of_beq_eq_true hq
            have ha0 := takeL_all e2 hq
            subst ha0
            simp only [cond_true] at h
            split at h
            · cases h
            · rename_i b0 e3
              rw [appO_eq] at h
              cases h
              simp only [List.length_append] at hm
              have hmid : mid = mid.take size ++ mid.drop size := (List.take_append_drop _ _).symm
              have hc2 : cells.toList = pre ++ (mid.take size ++ (mid.drop size ++ post)) := by rw [hc, ← List.append_assoc (mid.take size), List.take_append_drop]
              have hfc := fill_cells' (j * size) v cells pre (mid.take size) (mid.drop size ++ post) hc2 hp (by simp; omega)
              obtain ⟨out, h1, h2⟩ := fill_run hf l (j + 1) b0 (v.cells.zipIdx.foldl (fun cs p => cs.setIfInBounds (j * size + p.2) p.1) cells) (pre ++ cellsL v) (mid.drop size) post e3
                (by rw [hfc]; simp) (by simp [hp, hlen, Nat.add_mul]) (by simp; omega)
              refine ⟨out, ?_, by rw [h2]; simp⟩
              simp only [List.map_cons, Instr.fill, hf.ev e1]
              have hsz : v.cells.size = (cellsL v).length := by rw [cellsL_eq]; simp
              have hcz : cells.size = pre.length + (mid.length + post.length) := by rw [← Array.length_toList, hc]; simp
              rw [if_neg (by simp [hsz, hlen]; omega)]
              exact h1
section
variable {C : Ctx} {k : List It} {E : Env} {Ps : List PA} {Os : List OA}
variable {o : Oper} {ops : Array Oper} {S : World → Prop} {r : Pl} {f : Bool}
theorem go_bslice {tb : TB} (ht : TOk C.P tb) {t e n : Nat} {parts : Array (Nat × Operand)} {s1 : Nat} {a1 : Bool} {z1 : Value} {y1 : Nat} {i : TI} {cs : List Value} (ho : o.op = .buildSlice t n parts) (hw : wants ops E o = some true)
    (hi : lookT tb t = some ⟨.slice e, s1, a1, z1, y1⟩) (he : lookT tb e = some i) (hc : bcells i.size E 0 parts.toList = some cs) (hl : Nat.beq cs.length (n * i.size) = true) (hb : Nat.ble (n * i.size) 16777216 = true) (hd : okDst C.N o.dst = true)
    (hS : f = true → ∀ b w hp ho, Sat w hp ho Ps (pt b e cs :: Os) → S w)
    (g : ∀ b, Go C (.ops ops S r :: k) (setE o.dst (.slice (some ⟨b, 0, none⟩) n n) E) Ps (pt b e cs :: Os)) : Go C (.ops ops S (.one 0 f o r) :: k) E Ps Os :=
  go_eff (fun b => .slice (some ⟨b, 0, none⟩) n n) (fun _ => Ps) (fun b => pt b e cs :: Os) hw hd (fun a w hp ho' hf hs hb' => by
    obtain ⟨ho2, h1, h2⟩ := sat_alloc hs hb' (pt w.heap.size e cs) (.cells cs.toArray e) (fun h q => q)
    refine ⟨w.heap.size, _, hp, ho2, ?_, h1, h2⟩
    have hlen := Nat.eq_of_beq_eq_true hl
    have hbig : ¬ (n * i.size > 2 ^ 24) := by have := Nat.le_of_ble_eq_true hb; simp; omega
    have hu := run_und (ht _ _ hi).u w
    have hs' := (ht _ _ he).size w
    have hz := (ht _ _ he).zero w
    have key : ∀ cells : Array Value, cells.size = n * i.size → Instr.fill (fun j => some (j * i.size, i.size)) cells (parts.map fun p => (p.1, a.eval p.2)).toList = some cs.toArray := fun cells hcs => by
      obtain ⟨out, q1, q2⟩ := fill_run hf parts.toList 0 cs cells [] cells.toList [] hc (by simp) (by simp) (by simp; omega)
      have : out = cs.toArray := by apply Array.ext'; simpa using q2
      rw [Array.toList_map, ← this]
      exact q1
    have hrun : (Instr.buildSlice t n (parts.map fun p => (p.1, a.eval p.2))).run C.P w = .ok (.slice (some ⟨w.heap.size, 0, none⟩) n n) { w with heap := w.heap.push (.cells cs.toArray e) } := by
      unfold Instr.buildSlice
      by_cases h0 : n * i.size = 0
      · have k0 := key ((Array.range 0).map fun x => (#[] : Array Value)[x % 0]!) (by simp [h0])
        simp only [Sem.run_bind, hu, Result.andThen_ok, hs', h0, if_true, Sem.run_pure]
        rw [if_neg (by simp)]
        simp only [Sem.run_bind, Result.andThen_ok, Sem.run_pure, List.size_toArray, List.length_nil]
        rw [k0]
        simp [newRow, newObj, Sem.run]
      · have k0 := key ((Array.range (n * i.size)).map fun x => i.zero.cells[x % i.zero.cells.size]!) (by simp)
        simp only [Sem.run_bind, hu, Result.andThen_ok, hs', hbig, if_false, h0, Sem.run_pure, hz]
        rw [k0]
        simp [newRow, newObj, Sem.run]
    simp [execOp, ho, hrun]) hS g
/-- A literal that is henceforth read, or owned. -/
theorem row_pt {α : Type} {T : Ty α} {b e : Nat} {cs : List Value} {xs : List α} {hp h : Heap} (q : (pt b e cs).p hp h) (hr : Reps T hp xs cs) (hn : xs.length ≤ 1000000000) : (ol T e (some ⟨b, 0, none⟩) xs.length xs).p hp h := by
  have q' : h b = some (.cells cs.toArray e (0, 0)) := q
  refine ⟨cs, ⟨hr.len, Nat.le_refl _, by simp only [maxLen]; omega, .inr ⟨b, _, rfl, q', by simp [hr.len], ?_⟩⟩, hr⟩
  rw [← hr.len]; simp
theorem go_lit_ol {α : Type} (T : Ty α) {b e : Nat} {cs : List Value} (xs : List α) {rr : List OA} (h : Rem (pt b e cs) Os rr) (hr : ∀ hp, (∀ p, p ∈ Ps → p.p hp) → Reps T hp xs cs) (hn : xs.length ≤ 1000000000)
    (g : Go C k E Ps (ol T e (some ⟨b, 0, none⟩) xs.length xs :: rr)) : Go C k E Ps Os := fun a w hp ho hf hs hb => by
  refine g a w hp ho hf ⟨hs.inp, hs.ino, hs.dj, hs.ps, ?_⟩ hb
  exact hs.os.set h (Bs := [ol T e (some ⟨b, 0, none⟩) xs.length xs]) fun h1 q => ⟨h1, Heap.nil, Heap.le_refl _, Heap.nil_le _, Heap.dj_symm (Heap.nil_dj _), row_pt q (hr hp hs.ps) hn, trivial⟩
theorem go_lit {α : Type} (T : Ty α) {b e : Nat} {cs : List Value} (xs : List α) {rr : List OA} (h : Rem (pt b e cs) Os rr) (hr : ∀ hp, (∀ p, p ∈ Ps → p.p hp) → Reps T hp xs cs) (hn : xs.length ≤ 1000000000)
    (g : Go C k E (sl T (some ⟨b, 0, none⟩) xs.length xs :: Ps) rr) : Go C k E Ps Os := go_lit_ol T xs h hr hn (go_freeze_ol .here g)
theorem reps_ints {kk : IntKind} {h : Heap} : ∀ xs : List Int, Reps (tInt kk) h xs (xs.map (.int kk))
  | [] => rfl
  | x :: xs => ⟨[.int kk x], xs.map (.int kk), rfl, rfl, reps_ints xs⟩
theorem go_lit_int {kk : IntKind} {b e : Nat} (xs : List Int) {rr : List OA} (h : Rem (pt b e (xs.map (.int kk))) Os rr) (hn : xs.length ≤ 1000000000)
    (g : Go C k E (sl (tInt kk) (some ⟨b, 0, none⟩) xs.length xs :: Ps) rr) : Go C k E Ps Os := go_lit (tInt kk) xs h (fun _ _ => reps_ints xs) hn g
end
end Go.Proofs.Ytdkfpgdfjnaciaa.SL
