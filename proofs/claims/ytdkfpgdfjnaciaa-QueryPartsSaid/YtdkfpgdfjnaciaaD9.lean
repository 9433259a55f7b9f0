/- Lists of facts that are owned through and through: read, lent, and written over. -/
import Derived.Test.YtdkfpgdfjnaciaaD8
set_option linter.unusedVariables false
set_option linter.unusedSimpArgs false
namespace Go.Proofs.Ytdkfpgdfjnaciaa.SL
/-- Such a list, its cells known. -/
def Dlc (e : Nat) (A : Option Addr) (c : Nat) (xs : List Fa) (cs : List Value) (ho : Heap) : Prop := ∃ h1 h2 : Heap, h1.le ho ∧ h2.le ho ∧ h1.dj h2 ∧ Row e tFa.size A xs.length c cs h1 ∧ Reps tFa h2 xs cs ∧ Wr h2
def dlc (e : Nat) (A : Option Addr) (c : Nat) (xs : List Fa) (cs : List Value) : OA := ⟨fun _ ho => Dlc e A c xs cs ho, fun _ q => q⟩
theorem free_dlc {e : Nat} {A : Option Addr} {c : Nat} {xs : List Fa} {cs : List Value} : (dlc e A c xs cs).free := fun _ _ _ h => h
/-- The cells of an element. -/
def cell2 (cs : List Value) (j : Nat) (x : Fa) (A : Option Addr) (c : Nat) : Prop := cs[j * 2]? = some (.int .u32 x.p) ∧ cs[j * 2 + 1]? = some (.slice A x.a.length c)
theorem Reps.cell2 {h : Heap} {xs : List Fa} {cs : List Value} (r : Reps tFa h xs cs) {j : Nat} {x : Fa} (hj : xs[j]? = some x) : ∃ A c, SL.cell2 cs j x A c ∧ Sl tU h A c x.a := by
  obtain ⟨ds, h1, h2⟩ := r.at j x hj
  obtain ⟨A, c, rfl, s⟩ := tFa_open h1
  exact ⟨A, c, ⟨h2 0 _ rfl, h2 1 _ rfl⟩, s⟩
theorem cell2_eq {cs : List Value} {j : Nat} {x y : Fa} {A B : Option Addr} {c d : Nat} (h : cell2 cs j x A c) (g : cell2 cs j y B d) : B = A ∧ y.a.length = x.a.length ∧ d = c := by
  have := g.2.symm.trans h.2
  simp only [Option.some.injEq, Value.slice.injEq] at this
  exact this
section
variable {C : Ctx} {k : List It} {E : Env} {Ps : List PA} {Os : List OA}
theorem go_dlc {e : Nat} {A : Option Addr} {c : Nat} {xs : List Fa} {rr : List OA} (h : Rem (dl tFa e A c xs) Os rr) (g : ∀ cs, Go C k E Ps (dlc e A c xs cs :: rr)) : Go C k E Ps Os := fun a w hp ho hf hs hb => by
  obtain ⟨g1, g2, i, b, d, ⟨cs, h1, h2, x1, x2, x3, x4, x5, x6⟩, e⟩ := Sep.rem h hs.os
  exact g cs a w hp ho hf ⟨hs.inp, hs.ino, hs.dj, hs.ps, g1, g2, i, b, d, ⟨h1, h2, x1, x2, x3, x4, x5, x6⟩, e⟩ hb
theorem go_undlc {e : Nat} {A : Option Addr} {c : Nat} {xs : List Fa} {cs : List Value} {rr : List OA} (h : Rem (dlc e A c xs cs) Os rr) (g : Go C k E Ps (dl tFa e A c xs :: rr)) : Go C k E Ps Os :=
  go_imp _ [dl tFa e A c xs] h (fun _ _ ⟨h1, h2, q⟩ => sep_one ⟨cs, h1, h2, q⟩) g
theorem go_dlc_at {e : Nat} {A : Option Addr} {c : Nat} {xs : List Fa} {cs : List Value} {rr : List OA} (h : Rem (dlc e A c xs cs) Os rr) (j : Nat) {x : Fa} (hj : xs[j]? = some x) (g : ∀ b A' c', A = some ⟨b, 0, none⟩ → cell2 cs j x A' c' → x.a.length ≤ 9223372036854775807 → Go C k E Ps Os) : Go C k E Ps Os :=
  go_ofact (φ := ∃ b A' c', A = some ⟨b, 0, none⟩ ∧ cell2 cs j x A' c' ∧ x.a.length ≤ 9223372036854775807) _ h (fun _ _ ⟨h1, h2, x1, x2, x3, x4, x5, x6⟩ => by
    obtain ⟨A', c', q1, q2⟩ := x5.cell2 hj
    rcases x4.2.2.2 with q | ⟨b, _, q, _⟩
    · have := (List.getElem?_eq_some_iff.1 hj).1; omega
    · exact ⟨b, A', c', q, q1, by have h1 := q2.1; have h2 := q2.2.1; simp only [maxLen] at h2; omega⟩) fun ⟨b, A', c', q1, q2, q3⟩ => g b A' c' q1 q2 q3
theorem at_dlc {e b c o n : Nat} {xs : List Fa} {cs out : List Value} {rr : List OA} (h : Rem (dlc e (some ⟨b, 0, none⟩) c xs cs) Os rr) (hl : out.length = n) (h3 : ∀ i v, out[i]? = some v → cs[o + i]? = some v) : At Ps Os b (0 + o) n out :=
  ⟨hl, fun w hp ho hs i v hv => by
    obtain ⟨h1, l1, g1, g2, x1, x2, x3, x4, x5, x6⟩ := h.sep hs.os
    have hv2 := h3 i v hv
    rcases x4.2.2.2 with q | ⟨g, cur, q1, q2, q3, q4⟩
    · have : cs = [] := List.eq_nil_of_length_eq_zero (by rw [x4.1, q.1]; simp)
      subst this; simp at hv2
    · cases q1
      refine cellH_world (cellH_le ((x1.tr l1).tr hs.ino) ?_)
      simp only [cellH, q2]
      rw [← q4, List.getElem?_take] at hv2
      split at hv2
      · rw [← Array.getElem?_toList, Nat.zero_add]; exact hv2
      · cases hv2⟩
theorem at_fa {e b c j p : Nat} {x : Fa} {A' : Option Addr} {c' : Nat} {xs : List Fa} {cs : List Value} {rr : List OA} (h : Rem (dlc e (some ⟨b, 0, none⟩) c xs cs) Os rr) (q : cell2 cs j x A' c') (hp : p = 0 + j * 2) : At Ps Os b p 2 [.int .u32 x.p, .slice A' x.a.length c'] := by
  subst hp
  exact at_dlc h rfl (fun i v hv => by
    match i, hv with
    | 0, hv => simp at hv; subst hv; exact q.1
    | 1, hv => simp at hv; subst hv; exact q.2)
theorem at_fa1 {e b c j p : Nat} {x : Fa} {A' : Option Addr} {c' : Nat} {xs : List Fa} {cs : List Value} {rr : List OA} (h : Rem (dlc e (some ⟨b, 0, none⟩) c xs cs) Os rr) (q : cell2 cs j x A' c') (hp : p = 0 + (j * 2 + 1)) : At Ps Os b p 1 [.slice A' x.a.length c'] := by
  subst hp
  exact at_dlc h rfl (fun i v hv => by
    match i, hv with
    | 0, hv => simp at hv; subst hv; exact q.2)
end
/-- What an element's Args are, read in such a list. -/
theorem lend_dlc {e : Nat} {A : Option Addr} {c : Nat} {xs : List Fa} {cs : List Value} {j : Nat} {x : Fa} {A' : Option Addr} {c' : Nat} (hj : xs[j]? = some x) (q : cell2 cs j x A' c') : ∀ hp h1 H, hp.le H → h1.le H → (dlc e A c xs cs).p hp h1 → (sl tU A' c' x.a).p H := fun hp h1 H _ l2 ⟨g1, g2, x1, x2, x3, x4, x5, x6⟩ => by
  obtain ⟨A2, c2, q1, q2⟩ := x5.cell2 hj
  have := q1.2.symm.trans q.2
  simp only [Option.some.injEq, Value.slice.injEq] at this
  obtain ⟨rfl, _, rfl⟩ := this
  exact q2.up (x2.tr l2)
/-! ### written over -/
def shc (e : Nat) (A : Option Addr) (c n : Nat) (cs : List Value) : OA := ⟨fun _ ho => ∃ xs : List Fa, xs.length = n ∧ Dlc e A c xs cs ho, fun _ q => q⟩
theorem Sl.over {h h' : Heap} {A : Option Addr} {c : Nat} {xs : List Int} (s : Sl tU h A c xs) (hc : ∀ b i v, cellH h b i = some (.int .u32 v) → ∃ v', cellH h' b i = some (.int .u32 v')) : ∃ ys : List Int, ys.length = xs.length ∧ Sl tU h' A c ys := by
  obtain ⟨s1, s2, s3, s4⟩ := s
  have key : ∀ n, n ≤ xs.length → ∃ ys : List Int, ys.length = n ∧ ∀ j x, ys[j]? = some x → ∃ b o cs, A = some ⟨b, o, none⟩ ∧ tU.rep h' x cs ∧ ∀ i v, cs[i]? = some v → cellH h' b (o + (j * tU.size + i)) = some v := by
    intro n
    induction n with
    | zero => exact fun _ => ⟨[], rfl, fun j x hj => by simp at hj⟩
    | succ n ih =>
      intro hn
      obtain ⟨ys, h1, h2⟩ := ih (by omega)
      obtain ⟨b, o, cs, e, r, hcs⟩ := s4 n _ (List.getElem?_eq_getElem (by omega))
      have r' : cs = [.int .u32 xs[n]] := r
      subst r'
      obtain ⟨v', hv'⟩ := hc _ _ _ (hcs 0 _ rfl)
      refine ⟨ys ++ [v'], by simp [h1], fun j x hj => ?_⟩
      rw [List.getElem?_append] at hj
      split at hj
      · exact h2 j x hj
      · rename_i hlt
        have : j = n := by
          rcases Nat.lt_or_ge j (n + 1) with q | q
          · omega
          · rw [List.getElem?_eq_none (by simp; omega)] at hj; cases hj
        subst this
        simp [h1] at hj
        subst hj
        exact ⟨b, o, _, e, rfl, fun i v hi => by
          cases i with
          | zero => simp at hi; subst hi; exact hv'
          | succ i => simp at hi⟩
  obtain ⟨ys, h1, h2⟩ := key xs.length (Nat.le_refl _)
  exact ⟨ys, h1, by rw [h1]; exact s1, s2, s3, h2⟩
theorem Reps.over {h h' : Heap} (hc : ∀ b i v, cellH h b i = some (.int .u32 v) → ∃ v', cellH h' b i = some (.int .u32 v')) : ∀ {xs : List Fa} {cs : List Value}, Reps tFa h xs cs → ∃ ys : List Fa, ys.length = xs.length ∧ Reps tFa h' ys cs
  | [], cs, r => ⟨[], rfl, r⟩
  | x :: xs, _, ⟨a, b, e, r, s⟩ => by
    obtain ⟨A, c, rfl, sx⟩ := tFa_open r
    obtain ⟨ys, h1, h2⟩ := Reps.over hc s
    obtain ⟨zs, h3, h4⟩ := sx.over hc
    exact ⟨⟨x.p, zs⟩ :: ys, by simp [h1], _, _, e, by rw [← h3]; exact tFa_mk (x := ⟨x.p, zs⟩) h4, h2⟩
section
variable {C : Ctx} {k : List It} {E : Env} {Ps : List PA} {Os : List OA}
variable {o : Oper} {ops : Array Oper} {S : World → Prop} {r : Pl} {f : Bool}
theorem go_shc {e : Nat} {A : Option Addr} {c n : Nat} {cs : List Value} {rr : List OA} (h : Rem (shc e A c n cs) Os rr) (g : ∀ xs, xs.length = n → Go C k E Ps (dlc e A c xs cs :: rr)) : Go C k E Ps Os := fun a w hp ho hf hs hb => by
  obtain ⟨g1, g2, i, b, d, ⟨xs, q1, q2⟩, e⟩ := Sep.rem h hs.os
  exact g xs q1 a w hp ho hf ⟨hs.inp, hs.ino, hs.dj, hs.ps, g1, g2, i, b, d, q2, e⟩ hb
theorem go_unshc {e : Nat} {A : Option Addr} {c n : Nat} {xs : List Fa} {cs : List Value} {rr : List OA} (h : Rem (dlc e A c xs cs) Os rr) (hn : xs.length = n) (g : Go C k E Ps (shc e A c n cs :: rr)) : Go C k E Ps Os :=
  go_imp _ [shc e A c n cs] h (fun _ _ q => sep_one ⟨xs, hn, q⟩) g
/-- A symbol in such a list. -/
theorem Dlc.arg {e : Nat} {A : Option Addr} {c : Nat} {xs : List Fa} {cs : List Value} {ho : Heap} (d : Dlc e A c xs cs ho) {j m : Nat} {x : Fa} {A' : Option Addr} {c' : Nat} (hj : xs[j]? = some x) (q : cell2 cs j x A' c') (hm : m < x.a.length) :
    ∃ (h1 h2 : Heap) (b o : Nat) (cur : Array Value) (ty : TypeId), A' = some ⟨b, o, none⟩ ∧ h1.le ho ∧ h2.le ho ∧ h1.dj h2 ∧ Row e tFa.size A xs.length c cs h1 ∧ Reps tFa h2 xs cs ∧ Wr h2 ∧ h2 b = some (.cells cur ty (0, 0)) ∧ cur[o + m]? = some (.int .u32 x.a[m]) := by
  obtain ⟨h1, h2, x1, x2, x3, x4, x5, x6⟩ := d
  obtain ⟨A2, c2, q1, q2⟩ := x5.cell2 hj
  have := q1.2.symm.trans q.2
  simp only [Option.some.injEq, Value.slice.injEq] at this
  obtain ⟨rfl, _, rfl⟩ := this
  obtain ⟨b, o, ds, e1, r, hc⟩ := q2.2.2.2 m _ (List.getElem?_eq_getElem hm)
  have r' : ds = [.int .u32 x.a[m]] := r
  subst r'
  have h0 := hc 0 _ rfl
  have hs1 : tU.size = 1 := rfl
  rw [hs1, Nat.mul_one, Nat.add_zero] at h0
  unfold cellH at h0
  split at h0
  · rename_i cur ty z hb
    obtain ⟨c3, ty3, e3⟩ := x6 _ _ hb
    cases e3
    exact ⟨h1, h2, b, o, cur, ty, e1, x1, x2, x3, x4, x5, x6, hb, h0⟩
  · cases h0
theorem go_arg_at {e : Nat} {A : Option Addr} {c : Nat} {xs : List Fa} {cs : List Value} {rr : List OA} (h : Rem (dlc e A c xs cs) Os rr) {j m : Nat} {x : Fa} {A' : Option Addr} {c' : Nat} (hj : xs[j]? = some x) (q : cell2 cs j x A' c') (hm : m < x.a.length) (g : ∀ b o, A' = some ⟨b, o, none⟩ → Go C k E Ps Os) : Go C k E Ps Os :=
  go_ofact (φ := ∃ b o, A' = some ⟨b, o, none⟩) _ h (fun hp h1 d => by
    obtain ⟨_, _, b, o, _, _, q, _⟩ := Dlc.arg d hj q hm
    exact ⟨b, o, q⟩) fun ⟨b, o, q⟩ => g b o q
theorem at_arg {e : Nat} {A : Option Addr} {c : Nat} {xs : List Fa} {cs : List Value} {rr : List OA} (h : Rem (dlc e A c xs cs) Os rr) {j m b oo p : Nat} {x : Fa} {c' : Nat} (hj : xs[j]? = some x) (q : cell2 cs j x (some ⟨b, oo, none⟩) c') (hm : m < x.a.length) (hp : p = oo + m) : At Ps Os b p 1 [.int .u32 x.a[m]] := by
  subst hp
  refine ⟨rfl, fun w hp ho hs i v hv => ?_⟩
  obtain ⟨h1, l1, d⟩ := h.sep hs.os
  obtain ⟨g1, g2, b2, o2, cur, ty, e1, y1, y2, y3, y4, y5, y6, y7, y8⟩ := Dlc.arg d hj q hm
  cases e1
  cases i with
  | zero =>
    simp at hv; subst hv
    refine cellH_world (cellH_le ((y2.tr l1).tr hs.ino) ?_)
    simp only [cellH, y7, Nat.add_zero]
    exact y8
  | succ i => simp at hv
/-- A symbol written over: what is there then is some list in the same cells. -/
theorem go_store_arg {tb : TB} (ht : TOk C.P tb) {t : TypeId} {x y : Operand} {i : TI} {b oo p : Nat} {v : Int} {e : Nat} {A : Option Addr} {c : Nat} {xs : List Fa} {cs : List Value} {rr : List OA} (ho : o.op = .store t x y) (hw : wants ops E o = some true)
    (hx : ev E x = some (.pointer (some ⟨b, p, none⟩))) (hy : ev E y = some (.int .u32 v)) (hi : lookT tb t = some i) (hi1 : i.size = 1) (hd : okDst C.N o.dst = true) (h : Rem (dlc e A c xs cs) Os rr) {j m : Nat} {f0 : Fa} {c' : Nat} (hj : xs[j]? = some f0) (q : cell2 cs j f0 (some ⟨b, oo, none⟩) c') (hm : m < f0.a.length) (hp : p = oo + m)
    (hS : f = true → ∀ w hp ho, Sat w hp ho Ps (shc e A c xs.length cs :: rr) → S w)
    (g : Go C (.ops ops S r :: k) (setE o.dst undef E) Ps (shc e A c xs.length cs :: rr)) : Go C (.ops ops S (.one 0 f o r) :: k) E Ps Os := by
  subst hp
  refine go_effU Ps (shc e A c xs.length cs :: rr) hw hd (fun a w hp ho' hf hs hb => ?_) hS g
  obtain ⟨h1, h2, a1, b1, c1, d1, e1⟩ := Sep.rem h hs.os
  obtain ⟨g1, g2, b2, o2, cur, ty, ee, y1, y2, y3, y4, y5, y6, y7, y8⟩ := Dlc.arg d1 hj q hm
  cases ee
  have hb1 : h1 b = some (.cells cur ty (0, 0)) := y2 _ _ y7
  have hbo := a1 _ _ hb1
  have hbw : w.heap[b]? = some (.cells cur ty (0, 0)) := hs.ino _ _ hbo
  have hlt : b < w.heap.size := (Array.getElem?_eq_some_iff.1 hbw).1
  have hidx : oo + m < cur.size := (Array.getElem?_eq_some_iff.1 y8).1
  let ob : Obj := .cells (cur.setIfInBounds (oo + m) (.int .u32 v)) ty (0, 0)
  have hob : ob = .cells (cur.setIfInBounds (oo + m) (.int .u32 v)) ty (0, 0) := rfl
  have other : ∀ hh : Heap, hh.le (hpOf w) → hh b = none → hh.le (hpOf { w with heap := w.heap.setIfInBounds b ob }) := fun hh hl hn z u e => by
    have hz : z ≠ b := fun q => by subst q; rw [hn] at e; cases e
    have := hl _ _ e
    simp only [hpOf] at this ⊢
    rw [Array.getElem?_setIfInBounds_ne (Ne.symm hz)]
    exact this
  have n2 : h2 b = none := by rcases c1 b with q | q; · rw [hb1] at q; cases q
                              · exact q
  have np : hp b = none := by rcases hs.dj b with q | q; · exact q
                              · rw [hbo] at q; cases q
  have nf : C.hf b = none := by rcases hb.djo b with q | q; · exact q
                                · rw [hbo] at q; cases q
  have ng : g1 b = none := by rcases y3 b with q | q; · exact q
                              · rw [y7] at q; cases q
  -- the part that is written over
  let g3 : Heap := fun z => if z = b then some ob else g2 z
  have g3b : g3 b = some ob := by simp [g3]
  have g3o : ∀ z, z ≠ b → g3 z = g2 z := fun z hz => by simp [g3, hz]
  have lg3 : g3.le (hpOf { w with heap := w.heap.setIfInBounds b ob }) := fun z u e => by
    by_cases hz : z = b
    · subst hz
      rw [g3b] at e; cases e
      simp [hpOf, hlt]
    · rw [g3o z hz] at e
      have := hs.ino _ _ (a1 _ _ (y2 _ _ e))
      simp only [hpOf] at this ⊢
      rw [Array.getElem?_setIfInBounds_ne (Ne.symm hz)]
      exact this
  have dj3 : ∀ hh : Heap, hh b = none → g2.dj hh → g3.dj hh := fun hh hn d z => by
    by_cases hz : z = b
    · subst hz; exact .inr hn
    · rcases d z with q | q
      · left; rw [g3o z hz]; exact q
      · exact .inr q
  have d13 : g1.dj g3 := Heap.dj_symm (dj3 _ ng (Heap.dj_symm y3))
  have d12 : g1.dj h2 := Heap.dj_le c1 y1 (Heap.le_refl _)
  have d32 : g3.dj h2 := dj3 _ n2 (Heap.dj_le c1 y2 (Heap.le_refl _))
  have w3 : Wr g3 := fun z u e => by
    by_cases hz : z = b
    · subst hz; rw [g3b] at e; cases e; exact ⟨_, _, rfl⟩
    · rw [g3o z hz] at e; exact y6 _ _ e
  have over : ∀ b' i' v', cellH g2 b' i' = some (.int .u32 v') → ∃ v'', cellH g3 b' i' = some (.int .u32 v'') := fun b' i' v' e => by
    by_cases hz : b' = b
    · subst hz
      simp only [cellH, y7] at e
      simp only [cellH, g3b, hob]
      by_cases hi' : oo + m = i'
      · subst hi'; exact ⟨v, by simp [hidx]⟩
      · exact ⟨v', by rw [Array.getElem?_setIfInBounds_ne hi']; exact e⟩
    · refine ⟨v', ?_⟩
      simp only [cellH, g3o b' hz]
      exact e
  obtain ⟨ys, hy1, hy2⟩ := y5.over over
  refine ⟨{ w with heap := w.heap.setIfInBounds b ob }, hp, (g1.add g3).add h2, ?_, ?_, ?_⟩
  · have hrun := run_store_one (P := C.P) (w := w) (b := b) (i := oo + m) hbw hidx (v := .int .u32 v) rfl
    have hsz := (ht _ _ hi).size
    rw [hi1] at hsz
    simp [execOp, ho, hf.ev hx, hf.ev hy, Instr.storeAt, Instr.sureAddr, storeVar, hsz, Value.cells, storeCells, hrun, run_addOff, ob]
  · have l13 : (g1.add g3).le (hpOf { w with heap := w.heap.setIfInBounds b ob }) := Heap.add_le (other g1 ((y1.tr a1).tr hs.ino) ng) lg3
    have dA : (g1.add g3).dj h2 := Heap.add_dj d12 d32
    refine ⟨other hp hs.inp np, Heap.add_le l13 (other h2 (b1.tr hs.ino) n2), ?_, hs.ps, g1.add g3, h2, Heap.le_add_left _ _, Heap.le_add_right dA, dA, ⟨ys, hy1, g1, g3, Heap.le_add_left _ _, Heap.le_add_right d13, d13, by rw [hy1]; exact y4, hy2, w3⟩, e1⟩
    refine Heap.dj_symm (Heap.add_dj (Heap.add_dj (Heap.dj_symm (Heap.dj_le hs.dj (Heap.le_refl _) (y1.tr a1))) (dj3 _ np (Heap.dj_symm (Heap.dj_le hs.dj (Heap.le_refl _) (y2.tr a1))))) (Heap.dj_symm (Heap.dj_le hs.dj (Heap.le_refl _) b1)))
  · refine ⟨hb.hp0, other _ hb.hf nf, hb.djp, Heap.dj_symm (Heap.add_dj (Heap.add_dj (Heap.dj_symm (Heap.dj_le hb.djo (Heap.le_refl _) (y1.tr a1))) (dj3 _ nf (Heap.dj_symm (Heap.dj_le hb.djo (Heap.le_refl _) (y2.tr a1))))) (Heap.dj_symm (Heap.dj_le hb.djo (Heap.le_refl _) b1))), hb.rest.os, hb.rest.tape, hb.rest.output, hb.rest.drawn, ?_⟩
    have := hb.rest.size
    simpa using this
end
/-! ### steps -/
structure St where
  c : Bool
  f : Fa
def St.ok (x : St) : Prop := x.f.ok
def tSt : Ty St := tIso (tPair tBool tFa) (fun x => (x.c, x.f))
theorem tSt_open {h : Heap} {x : St} {cs : List Value} (r : tSt.rep h x cs) : ∃ A c, cs = [.bool x.c, .int .u32 x.f.p, .slice A x.f.a.length c] ∧ Sl tU h A c x.f.a := by
  obtain ⟨a, b, e, h1, h2⟩ := r
  cases h1
  obtain ⟨A, c, rfl, s⟩ := tFa_open h2
  exact ⟨A, c, e, s⟩
theorem go_elem_st {C : Ctx} {k : List It} {E : Env} {Ps : List PA} {Os : List OA} {A : Option Addr} {c : Nat} {xs : List St} (h : sl tSt A c xs ∈ Ps) (j : Nat) {x : St} (hj : xs[j]? = some x)
    (g : ∀ b o A' c', A = some ⟨b, o, none⟩ → Go C k E (cl b (o + j * 3) [.bool x.c, .int .u32 x.f.p, .slice A' x.f.a.length c'] :: sl tU A' c' x.f.a :: Ps) Os) : Go C k E Ps Os :=
  go_elem h j hj fun b o cs e a w hp ho hf hs hb => by
    obtain ⟨A', c', hc, hsl⟩ := tSt_open (hs.ps (rp tSt x cs) (.tail _ (.head _)))
    subst hc
    exact g b o A' c' e a w hp ho hf ⟨hs.inp, hs.ino, hs.dj, forall_cons (hs.ps _ (.head _)) (forall_cons hsl fun p hq => hs.ps p (.tail _ (.tail _ hq))), hs.os⟩ hb
noncomputable def play (s : List Fa) (x : St) : List Fa := if 20 < x.f.a.length then s else if x.c then fcut s x.f else fput s x.f
noncomputable def plays (s : List Fa) (l : List St) : List Fa := l.foldl play s
theorem plays_next {s : List Fa} {l : List St} {k : Nat} (hk : k < l.length) : plays s (l.take (k + 1)) = play (plays s (l.take k)) l[k] := by
  unfold plays; rw [List.take_succ_eq_append_getElem hk, List.foldl_append]; rfl
theorem plays_skip {s : List Fa} {l : List St} {k : Nat} (hk : k < l.length) (h : 20 < l[k].f.a.length) : plays s (l.take (k + 1)) = plays s (l.take k) := by rw [plays_next hk, play, if_pos h]
theorem plays_cut {s : List Fa} {l : List St} {k : Nat} (hk : k < l.length) (h : ¬ 20 < l[k].f.a.length) (hc : l[k].c = true) : plays s (l.take (k + 1)) = fcut (plays s (l.take k)) l[k].f := by rw [plays_next hk, play, if_neg h, if_pos hc]
theorem plays_put {s : List Fa} {l : List St} {k : Nat} (hk : k < l.length) (h : ¬ 20 < l[k].f.a.length) (hc : l[k].c = false) : plays s (l.take (k + 1)) = fput (plays s (l.take k)) l[k].f := by rw [plays_next hk, play, if_neg h, if_neg (by simp [hc])]
structure Small (s : List Fa) (n : Nat) : Prop where
  r : rises s
  n : s.length ≤ n
  b : ∀ x ∈ s, x.a.length ≤ 20
theorem Small.play {s : List Fa} {n : Nat} (h : Small s n) (x : St) : Small (play s x) (n + 1) := by
  unfold SL.play
  split
  · exact ⟨h.r, by have := h.n; omega, h.b⟩
  · split
    · exact ⟨rises_fcut h.r _, by have := h.n; have := fcut_len s x.f; omega, fun y hy => h.b y ((mem_fcut h.r).1 hy).1⟩
    · rename_i h1 _
      exact ⟨rises_fput h.r _, by have := h.n; have := fput_len s x.f; omega, fun y hy => (mem_fput.1 hy).elim (fun e => by subst e; omega) (h.b y)⟩
theorem Small.mono {s : List Fa} {n m : Nat} (h : Small s n) (hm : n ≤ m) : Small s m := ⟨h.r, Nat.le_trans h.n hm, h.b⟩
theorem Small.fof {l : List Fa} (h1 : l.length ≤ 300) (h2 : ∀ x ∈ l, x.a.length ≤ 20) : Small (SL.fof l) 300 := ⟨rises_fof l, Nat.le_trans (fof_len l) h1, fun x hx => h2 x (mem_fof.1 hx)⟩
theorem Small.plays : ∀ (l : List St) {s : List Fa} {n : Nat}, Small s n → Small (plays s l) (n + l.length)
  | [], _, _, h => h
  | x :: l, s, n, h => by have := Small.plays l (h.play x); simp only [List.length_cons]; rw [show n + (l.length + 1) = n + 1 + l.length by omega]; exact this
end Go.Proofs.Ytdkfpgdfjnaciaa.SL
