/- More rules: what is lent to a call, elements of one's own rows, owned things with what they lead to. -/
import Derived.Test.YtdkfpgdfjnaciaaS7
set_option linter.unusedVariables false
set_option linter.unusedSimpArgs false
namespace Go.Proofs.Ytdkfpgdfjnaciaa.SL
/-- An owned thing and what it leads to, which is read. -/
def OA.pa (q : PA) (A : OA) : OA := ⟨fun hp ho => q.p hp ∧ A.p hp ho, fun hl h => ⟨q.up hl h.1, A.up hl h.2⟩⟩
def OA.free (A : OA) : Prop := ∀ hp hp' ho, A.p hp ho → A.p hp' ho
theorem free_pt {b ty : Nat} {cs : List Value} : (pt b ty cs).free := fun _ _ _ h => h
theorem Reps.flat {α : Type} {T : Ty α} (hT : T.flat) {h h' : Heap} : ∀ {xs : List α} {cs : List Value}, Reps T h xs cs → Reps T h' xs cs
  | [], _, e => e
  | _ :: _, _, ⟨a, b, e, r, s⟩ => ⟨a, b, e, hT _ _ _ _ r, Reps.flat hT s⟩
theorem free_ol {α : Type} {T : Ty α} (hT : T.flat) {e : Nat} {A : Option Addr} {c : Nat} {xs : List α} : (ol T e A c xs).free := fun _ _ _ ⟨cs, r, s⟩ => ⟨cs, r, s.flat hT⟩
theorem free_ex {α : Type} {f : α → OA} (h : ∀ x, (f x).free) : (OA.ex f).free := fun _ _ _ ⟨x, q⟩ => ⟨x, h x _ _ _ q⟩
theorem free_sep {Os : List OA} (h : ∀ A, A ∈ Os → A.free) {hp hp' : Heap} : ∀ {ho : Heap}, Sep hp Os ho → Sep hp' Os ho := by
  induction Os with
  | nil => exact fun _ => trivial
  | cons A Os ih => exact fun ⟨h1, h2, a, b, c, d, e⟩ => ⟨h1, h2, a, b, c, h A (.head _) _ _ _ d, ih (fun B hB => h B (.tail _ hB)) e⟩
theorem free_all {Os : List OA} (h : ∀ A, A ∈ Os → A.free) : (OA.all Os).free := fun _ _ _ q => free_sep h q
/-- What is owned may be lent to a call that reads it. -/
theorem Spec.lend {P : Program} {f : FuncId} {args : Array Value} {q : PA} {Ps : List PA} {Os : List OA} {Q : Value → List PA → List OA → Prop} (s : Spec P f args (q :: Ps) Os Q) (A : OA)
    (hA : ∀ (hp h1 H : Heap), hp.le H → h1.le H → A.p hp h1 → q.p H) (hQ : ∀ v P' O', Q v P' O' → P' = [] ∧ ∀ B, B ∈ O' → B.free) : Spec P f args Ps (A :: Os) (fun v Ps' Os' => ∃ O', Q v [] O' ∧ Ps' = [] ∧ Os' = A :: O') := by
  refine ⟨s.fn, fun w hp ho hf hs hfw d1 d2 => ?_⟩
  obtain ⟨h1, h2, a, b, c, dA, e⟩ := hs.os
  have dph1 : hp.dj h1 := Heap.dj_le hs.dj (Heap.le_refl _) a
  have dph2 : hp.dj h2 := Heap.dj_le hs.dj (Heap.le_refl _) b
  have djh : (hp.add h1).dj h2 := Heap.add_dj dph2 c
  have dfh1 : hf.dj h1 := Heap.dj_le d2 (Heap.le_refl _) a
  have dfa : hf.dj (hp.add h1) := Heap.dj_symm (Heap.add_dj (Heap.dj_symm d1) (Heap.dj_symm dfh1))
  have sat : Sat w (hp.add h1) h2 (q :: Ps) Os := ⟨Heap.add_le hs.inp (a.tr hs.ino), b.tr hs.ino, djh, forall_cons (hA hp h1 _ (Heap.le_add_left _ _) (Heap.le_add_right dph1) dA) (fun p hp' => p.up (Heap.le_add_left _ _) (hs.ps p hp')), Sep.up (Heap.le_add_left _ _) e⟩
  refine (s.calls w (hp.add h1) h2 hf sat hfw dfa (Heap.dj_le d2 (Heap.le_refl _) b)).mono ?_
  rintro x w' ⟨v, hp', ho', Ps', Os', rfl, hq, hs', hle, hfl, e1, e2, hr⟩
  obtain ⟨rfl, hfree⟩ := hQ _ _ _ hq
  have lp : hp.le hp' := (Heap.le_add_left _ _).tr hle
  have l1 : h1.le hp' := (Heap.le_add_right dph1).tr hle
  have d3 : h1.dj ho' := Heap.dj_le hs'.dj l1 (Heap.le_refl _)
  refine ⟨v, hp, h1.add ho', [], A :: Os', rfl, ⟨Os', hq, rfl, rfl⟩, ⟨lp.tr hs'.inp, Heap.add_le (l1.tr hs'.inp) hs'.ino, Heap.dj_symm (Heap.add_dj (Heap.dj_symm dph1) (Heap.dj_symm (Heap.dj_le hs'.dj lp (Heap.le_refl _)))), (fun p h => nomatch h),
    h1, ho', Heap.le_add_left _ _, Heap.le_add_right d3, d3, dA, free_sep hfree hs'.os⟩, Heap.le_refl _, hfl, d1, Heap.dj_symm (Heap.add_dj (Heap.dj_symm dfh1) (Heap.dj_symm e2)), hr⟩
theorem Spec.imp2 {P : Program} {f : FuncId} {args : Array Value} {Ps : List PA} {Os : List OA} {Q Q' : Value → List PA → List OA → Prop} (s : Spec P f args Ps Os Q) (h : ∀ v P O, Q v P O → ∃ O', (∀ hp h, Sep hp O h → Sep hp O' h) ∧ Q' v P O') : Spec P f args Ps Os Q' :=
  ⟨s.fn, fun w hp ho hf a b c d => (s.calls w hp ho hf a b c d).mono fun e w' ⟨v, hp', ho', Ps', Os', e1, q, r1, r2⟩ => by
    obtain ⟨O', q1, q2⟩ := h _ _ _ q
    exact ⟨v, hp', ho', Ps', O', e1, q2, ⟨r1.inp, r1.ino, r1.dj, r1.ps, q1 _ _ r1.os⟩, r2⟩⟩
theorem lend_ol {α : Type} {T : Ty α} {e : Nat} {A : Option Addr} {c : Nat} {xs : List α} : ∀ (hp h1 H : Heap), hp.le H → h1.le H → (ol T e A c xs).p hp h1 → (sl T A c xs).p H := fun hp h1 H l1 l2 ⟨cs, r, s⟩ => sl_of_row r l2 (s.up l1)
section
variable {C : Ctx} {k : List It} {E : Env} {Ps : List PA} {Os : List OA}
variable {o : Oper} {ops : Array Oper} {S : World → Prop} {r : Pl} {f : Bool}
theorem go_opa {q : PA} {A : OA} {rr : List OA} (h : Rem (OA.pa q A) Os rr) (g : Go C k E (q :: Ps) (A :: rr)) : Go C k E Ps Os := fun a w hp ho hf hs hb => by
  obtain ⟨h1, h2, i, b, c, ⟨d1, d2⟩, e⟩ := Sep.rem h hs.os
  exact g a w hp ho hf ⟨hs.inp, hs.ino, hs.dj, forall_cons d1 hs.ps, h1, h2, i, b, c, d2, e⟩ hb
/-- Several owned things, and what is read, said as one. -/
theorem go_foldp (Qs : List PA) (As : List OA) (B : OA) {rr : List OA} (hP : Subs Ps Qs) (h : Takes Os As rr) (hi : ∀ hp h, (∀ p, p ∈ Qs → p.p hp) → Sep hp As h → B.p hp h) (g : Go C k E Ps (B :: rr)) : Go C k E Ps Os := fun a w hp ho hf hs hb => by
  obtain ⟨h1, h2, a1, b1, c1, d, e⟩ := Sep.takes h hs.os
  exact g a w hp ho hf ⟨hs.inp, hs.ino, hs.dj, hs.ps, h1, h2, a1, b1, c1, hi _ _ (hs.ents hP.ents).ps d, e⟩ hb
/-- Another thing that is so of what is read. -/
theorem go_sl (q p : PA) (h : q ∈ Ps) (hi : ∀ h, q.p h → p.p h) (g : Go C k E (p :: Ps) Os) : Go C k E Ps Os := fun a w hp ho hf hs hb =>
  g a w hp ho hf (hs.addp (hi hp (hs.ps q h))) hb
theorem go_ol_addr {α : Type} {T : Ty α} {e : Nat} {A : Option Addr} {c : Nat} {xs : List α} {rr : List OA} (h : Rem (ol T e A c xs) Os rr) (hpos : 0 < xs.length) (g : ∀ b, A = some ⟨b, 0, none⟩ → Go C k E Ps Os) : Go C k E Ps Os :=
  go_ofact (φ := ∃ b, A = some ⟨b, 0, none⟩) _ h (fun _ _ ⟨_, q, _⟩ => by
    rcases q.2.2.2 with q | ⟨b, _, q, _⟩
    · omega
    · exact ⟨b, q⟩) fun ⟨b, q⟩ => g b q
theorem at_ol {α : Type} {T : Ty α} (fc : α → List Value) (hT : ∀ h x cs, T.rep h x cs → cs = fc x) (k : Nat) {e b c j n : Nat} {xs : List α} {x : α} {rr : List OA} {out : List Value} (h : Rem (ol T e (some ⟨b, 0, none⟩) c xs) Os rr) (hj : xs[j]? = some x) (ho : takeL n (dropL k (fc x)) = some out) :
    At Ps Os b (0 + j * T.size + k) n out := ⟨(takeL_eq ho).2, fun w hp ho' hs i v hi => by
    obtain ⟨h1, l1, cs, lrow, lreps⟩ := h.sep hs.os
    obtain ⟨ds, q1, q2⟩ := lreps.at j x hj
    have hds := hT _ _ _ q1
    subst hds
    obtain ⟨e1, e2⟩ := takeL_eq ho
    rw [dropL_eq] at e1
    have hlt : j < xs.length := by
      rcases Nat.lt_or_ge j xs.length with q | q
      · exact q
      · simp [q] at hj
    rcases lrow.2.2.2 with q | ⟨g, cur, q3, q4, q5, q6⟩
    · omega
    · cases q3
      refine cellH_world (cellH_le (l1.tr hs.ino) ?_)
      simp only [cellH, q4]
      rw [e1, List.getElem?_take] at hi
      split at hi
      · rw [List.getElem?_drop] at hi
        have := q2 _ _ hi
        rw [← q6, List.getElem?_take] at this
        split at this
        · rw [← Array.getElem?_toList, Nat.zero_add, Nat.add_assoc]
          exact this
        · cases this
      · cases hi⟩
def OA.when (φ : Prop) (A : OA) : OA := ⟨fun hp ho => φ → A.p hp ho, fun hl h p => A.up hl (h p)⟩
theorem go_when {φ : Prop} {A : OA} {rr : List OA} (h : Rem (OA.when φ A) Os rr) (p : φ) (g : Go C k E Ps (A :: rr)) : Go C k E Ps Os := go_imp _ [A] h (fun _ _ q => sep_one (q p)) g
theorem Reps.set {α : Type} {T : Ty α} {h : Heap} : ∀ {xs : List α} {cs : List Value} {j : Nat} {y : α} {vs : List Value}, Reps T h xs cs → j < xs.length → T.rep h y vs → Reps T h (xs.set j y) (putS (j * T.size) vs cs)
  | [], _, _, _, _, _, hj, _ => by simp at hj
  | x :: xs, _, 0, y, vs, ⟨a, b, e, r, s⟩, _, ry => by
    subst e
    refine ⟨vs, b, ?_, ry, s⟩
    simp only [putS, Nat.zero_mul, Nat.zero_add, List.take_zero, List.nil_append]
    rw [List.drop_append_of_le_length (by rw [T.len r, T.len ry]; omega), List.drop_of_length_le (by rw [T.len r, T.len ry]; omega), List.nil_append]
  | x :: xs, _, j + 1, y, vs, ⟨a, b, e, r, s⟩, hj, ry => by
    subst e
    refine ⟨a, putS (j * T.size) vs b, ?_, r, Reps.set s (by simpa using hj) ry⟩
    have ha := T.len r
    unfold putS
    rw [show (j + 1) * T.size = a.length + j * T.size from by rw [ha, Nat.add_mul]; omega, List.take_append, List.take_of_length_le (by omega), Nat.add_sub_cancel_left, List.append_assoc, List.drop_append, List.drop_of_length_le (by omega), List.nil_append]
    congr 4
    omega
theorem putS_take_comm {n m : Nat} {vs l : List Value} (h : n + vs.length ≤ m) (hl : n + vs.length ≤ l.length) : (putS n vs l).take m = putS n vs (l.take m) := by
  unfold putS
  rw [List.take_append, List.take_append, List.take_take, List.take_take, List.length_take, Nat.min_eq_left (show n ≤ l.length by omega), List.drop_take, Nat.min_eq_right (show n ≤ m by omega), Nat.min_eq_left (show n ≤ m by omega), List.take_of_length_le (l := vs) (by omega),
    show m - n - vs.length = m - (n + vs.length) from by omega]
theorem go_store_el {α : Type} {T : Ty α} {tb : TB} (ht : TOk C.P tb) {t : TypeId} {x y : Operand} {i : TI} {e b j c : Nat} {v : Value} {xs : List α} (z : α) {vs : List Value} {rr : List OA} (ho : o.op = .store t x y) (hw : wants ops E o = some true)
    (hx : ev E x = some (.pointer (some ⟨b, 0 + j * T.size, none⟩))) (hy : ev E y = some v) (hi : lookT tb t = some i) (hd : okDst C.N o.dst = true) (hr : Rem (ol T e (some ⟨b, 0, none⟩) c xs) Os rr) (hj : j < xs.length)
    (hv : takeL i.size (cellsL v) = some vs) (hl : Nat.beq (cellsL v).length i.size = true) (hm : Ent Ps (rp T z vs))
    (hS : f = true → ∀ w hp ho, Sat w hp ho Ps (ol T e (some ⟨b, 0, none⟩) c (xs.set j z) :: rr) → S w)
    (g : Go C (.ops ops S r :: k) (setE o.dst undef E) Ps (ol T e (some ⟨b, 0, none⟩) c (xs.set j z) :: rr)) : Go C (.ops ops S (.one 0 f o r) :: k) E Ps Os :=
  go_effU Ps (ol T e (some ⟨b, 0, none⟩) c (xs.set j z) :: rr) hw hd (fun a w hp ho' hf hs hb => by
    obtain ⟨g1, g2, la, lb, ldj, ⟨cs, lrow, lreps⟩, lsep⟩ := Sep.rem hr hs.os
    obtain ⟨q1, q2, q3, q4⟩ := lrow
    rcases q4 with q | ⟨g, cur, q4, q5, q6, q7⟩
    · omega
    · cases q4
      have hrz : T.rep hp z vs := hm hp hs.ps
      have hbw : w.heap[b]? = _ := hs.ino _ _ (la _ _ q5)
      have hvs := takeL_all hv hl
      subst hvs
      have hln := T.len hrz
      have hle := Nat.eq_of_beq_eq_true hl
      have hone := T.one hrz
      have hjs : j * T.size + T.size ≤ xs.length * T.size := by
        have := Nat.mul_le_mul_right T.size (show j + 1 ≤ xs.length from hj)
        rwa [Nat.add_mul, Nat.one_mul] at this
      have hxc := Nat.mul_le_mul_right T.size q2
      obtain ⟨c', hrun, hc'⟩ := run_storeCells (P := C.P) (b := b) (ty := e) (o := 0 + j * T.size) (cellsL v) 0 cur w hbw (by rw [hln, q6]; omega) hone
      rw [Nat.zero_add] at hrun
      have hc2 : c' = (putS (j * T.size) (cellsL v) cur.toList).toArray := by
        apply Array.ext'
        rw [hc']; simp [putS]
      subst hc2
      have hs2 : Sat w hp ho' Ps (pt b e cur.toList :: rr) := ⟨hs.inp, hs.ino, hs.dj, hs.ps, g1, g2, la, lb, ldj, by show g1 b = _; rw [q5], lsep⟩
      obtain ⟨ho2, h2, h3⟩ := sat_store (C := C) (cs' := putS (j * T.size) (cellsL v) cur.toList) .here hs2 hb
      refine ⟨_, hp, ho2, ?_, ?_, h3⟩
      · have hsz := (ht _ _ hi).size
        simp [execOp, ho, hf.ev hx, hf.ev hy, Instr.storeAt, Instr.sureAddr, storeVar, hsz, cellsL_eq, hle, hrun]
      · obtain ⟨k1, k2, ka, kb, kdj, kpt, ksep⟩ := h2.os
        refine ⟨h2.inp, h2.ino, h2.dj, h2.ps, k1, k2, ka, kb, kdj, ⟨putS (j * T.size) (cellsL v) cs, ⟨?_, by simpa using q2, q3, .inr ⟨b, _, rfl, kpt, ?_, ?_⟩⟩, lreps.set hj hrz⟩, ksep⟩
        · rw [putS_len (by rw [hln, q1]; exact hjs), q1]; simp
        · simp only [List.size_toArray]; rw [putS_len (by rw [hln]; simp [q6]; omega)]; simpa using q6
        · rw [← q7]
          simp only [List.length_set]
          exact putS_take_comm (by rw [hln]; exact hjs) (by rw [hln, Array.length_toList, q6]; omega)) hS g
end
end Go.Proofs.Ytdkfpgdfjnaciaa.SL
