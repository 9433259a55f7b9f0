/- Rows of the call's own: literals, append, stores, and their being only read from then on. -/
import Derived.Test.YtdkfpgdfjnaciaaS4
import Derived.Laws.AppendOwn
set_option linter.unusedVariables false
set_option linter.unusedSimpArgs false
namespace Go.Proofs.Ytdkfpgdfjnaciaa.SL

/-- A row of n elements, its cells known; nobody else's (or there is no room in it at all). -/
def Row (e size : Nat) (A : Option Addr) (n c : Nat) (cs : List Value) (h : Heap) : Prop :=
  cs.length = n * size ∧ n ≤ c ∧ c ≤ maxLen ∧ ((n = 0 ∧ c = 0) ∨ ∃ g cur, A = some ⟨g, 0, none⟩ ∧ h g = some (.cells cur e (0, 0)) ∧ cur.size = c * size ∧ cur.toList.take (n * size) = cs)
def row (e size : Nat) (A : Option Addr) (n c : Nat) (cs : List Value) : OA := ⟨fun _ h => Row e size A n c cs h, fun _ h => h⟩
def Reps {α : Type} (T : Ty α) (h : Heap) : List α → List Value → Prop
  | [], cs => cs = []
  | x :: xs, cs => ∃ a b, cs = a ++ b ∧ T.rep h x a ∧ Reps T h xs b
theorem Reps.up {α : Type} {T : Ty α} {h h' : Heap} (hl : h.le h') : ∀ {xs : List α} {cs : List Value}, Reps T h xs cs → Reps T h' xs cs
  | [], _, e => e
  | _ :: _, _, ⟨a, b, e, r, s⟩ => ⟨a, b, e, T.up hl r, Reps.up hl s⟩
theorem Reps.len {α : Type} {T : Ty α} {h : Heap} : ∀ {xs : List α} {cs : List Value}, Reps T h xs cs → cs.length = xs.length * T.size
  | [], _, e => by cases e; simp
  | _ :: xs, _, ⟨a, b, e, r, s⟩ => by subst e; simp [T.len r, Reps.len s, Nat.add_mul, Nat.add_comm]
theorem Reps.one {α : Type} {T : Ty α} {h : Heap} : ∀ {xs : List α} {cs : List Value}, Reps T h xs cs → oneCells cs = true
  | [], _, e => by cases e; rfl
  | _ :: xs, _, ⟨a, b, e, r, s⟩ => by subst e; exact oneCells_append _ _ (T.one r) (Reps.one s)
theorem Reps.app {α : Type} {T : Ty α} {h : Heap} : ∀ {xs ys : List α} {cs ds : List Value}, Reps T h xs cs → Reps T h ys ds → Reps T h (xs ++ ys) (cs ++ ds)
  | [], _, _, _, e, s => by cases e; exact s
  | _ :: _, _, _, ds, ⟨a, b, e, r, s⟩, t => ⟨a, b ++ ds, by subst e; simp, r, Reps.app s t⟩
theorem Reps.single {α : Type} {T : Ty α} {h : Heap} {x : α} {cs : List Value} (r : T.rep h x cs) : Reps T h [x] cs := ⟨cs, [], by simp, r, rfl⟩
theorem Reps.split {α : Type} {T : Ty α} {h : Heap} : ∀ {xs ys : List α} {cs : List Value}, Reps T h (xs ++ ys) cs → Reps T h xs (cs.take (xs.length * T.size)) ∧ Reps T h ys (cs.drop (xs.length * T.size))
  | [], _, _, s => by simpa [Reps] using s
  | x :: xs, ys, _, ⟨a, b, e, r, s⟩ => by
    subst e
    obtain ⟨h1, h2⟩ := Reps.split s
    have hl := T.len r
    have e1 : (x :: xs).length * T.size = a.length + xs.length * T.size := by simp [hl, Nat.add_mul, Nat.add_comm]
    rw [e1]
    refine ⟨⟨a, b.take (xs.length * T.size), ?_, r, h1⟩, ?_⟩
    · rw [List.take_append, List.take_of_length_le (by omega)]; congr 2; omega
    · rw [List.drop_append, List.drop_of_length_le (by omega)]
      simpa using h2
theorem Reps.at {α : Type} {T : Ty α} {h : Heap} : ∀ {xs : List α} {cs : List Value}, Reps T h xs cs → ∀ j x, xs[j]? = some x → ∃ ds, T.rep h x ds ∧ ∀ i v, ds[i]? = some v → cs[j * T.size + i]? = some v
  | [], _, _, j, x, hj => by simp at hj
  | y :: xs, _, ⟨a, b, e, r, s⟩, 0, x, hj => by
    simp at hj; subst hj
    refine ⟨a, r, fun i v hi => ?_⟩
    subst e
    have : i < a.length := by
      rcases Nat.lt_or_ge i a.length with q | q
      · exact q
      · simp [q] at hi
    simpa [List.getElem?_append_left this] using hi
  | y :: xs, _, ⟨a, b, e, r, s⟩, j + 1, x, hj => by
    obtain ⟨ds, r2, hd⟩ := Reps.at s j x (by simpa using hj)
    refine ⟨ds, r2, fun i v hi => ?_⟩
    subst e
    have := hd i v hi
    have hl := T.len r
    rw [List.getElem?_append_right (by rw [hl, Nat.add_mul]; omega)]
    rw [show (j + 1) * T.size + i - a.length = j * T.size + i from by rw [hl, Nat.add_mul]; omega]
    exact this
/-- An owned list, what its elements lead to is only read; one that is owned through and through; a value that is. -/
def ol {α : Type} (T : Ty α) (e : Nat) (A : Option Addr) (c : Nat) (xs : List α) : OA := ⟨fun hp h => ∃ cs, Row e T.size A xs.length c cs h ∧ Reps T hp xs cs, fun hl ⟨cs, r, s⟩ => ⟨cs, r, s.up hl⟩⟩
/-- All of it may be written. -/
def Wr (h : Heap) : Prop := ∀ b o, h b = some o → ∃ c ty, o = .cells c ty (0, 0)
theorem Wr.nil : Wr Heap.nil := fun _ _ e => nomatch e
theorem Wr.add {a b : Heap} (h : Wr a) (g : Wr b) : Wr (a.add b) := fun x o e => by
  unfold Heap.add at e
  cases k : a x with
  | none => rw [k] at e; exact g x o (by simpa using e)
  | some u => rw [k] at e; simp at e; subst e; exact h x u k
theorem Wr.one {b ty : Nat} {c : Array Value} : Wr (Heap.one b (.cells c ty (0, 0))) := fun x o e => by
  unfold Heap.one at e
  split at e
  · cases e; exact ⟨_, _, rfl⟩
  · cases e
def dl {α : Type} (T : Ty α) (e : Nat) (A : Option Addr) (c : Nat) (xs : List α) : OA := ⟨fun _ ho => ∃ (cs : List Value) (h1 h2 : Heap), Heap.le h1 ho ∧ Heap.le h2 ho ∧ Heap.dj h1 h2 ∧ Row e T.size A xs.length c cs h1 ∧ Reps T h2 xs cs ∧ Wr h2, fun _ q => q⟩
def vo {α : Type} (T : Ty α) (x : α) (cs : List Value) : OA := ⟨fun _ h => ∃ h1 : Heap, h1.le h ∧ Wr h1 ∧ T.rep h1 x cs, fun _ h => h⟩
theorem Row.le {e size : Nat} {A : Option Addr} {n c : Nat} {cs : List Value} {h h' : Heap} (hl : h.le h') (r : Row e size A n c cs h) : Row e size A n c cs h' := by
  obtain ⟨a, b, d, q⟩ := r
  refine ⟨a, b, d, ?_⟩
  rcases q with q | ⟨g, cur, e1, e2, e3, e4⟩
  · exact .inl q
  · exact .inr ⟨g, cur, e1, hl _ _ e2, e3, e4⟩
theorem sl_of_row {α : Type} {T : Ty α} {e : Nat} {A : Option Addr} {c : Nat} {xs : List α} {cs : List Value} {h1 h : Heap} (r : Row e T.size A xs.length c cs h1) (hl : h1.le h) (s : Reps T h xs cs) : Sl T h A c xs := by
  obtain ⟨a, b, d, q⟩ := r
  refine ⟨b, d, fun e1 => ?_, fun j x hj => ?_⟩
  · rcases q with q | ⟨g, cur, e2, _⟩
    · exact q.2
    · rw [e1] at e2; cases e2
  · have hlt : j < xs.length := by
      rcases Nat.lt_or_ge j xs.length with q | q
      · exact q
      · simp [q] at hj
    rcases q with q | ⟨g, cur, e1, e2, e3, e4⟩
    · omega
    · obtain ⟨ds, r2, hd⟩ := s.at j x hj
      refine ⟨g, 0, ds, e1, r2, fun i v hi => ?_⟩
      have := hd i v hi
      rw [← e4, List.getElem?_take] at this
      split at this
      · refine cellH_le hl ?_
        simp only [cellH, e2, Nat.zero_add]
        rw [← Array.getElem?_toList]
        exact this
      · cases this
section
variable {C : Ctx} {k : List It} {E : Env} {Ps : List PA} {Os : List OA}
theorem go_freeze_ol {α : Type} {T : Ty α} {e : Nat} {A : Option Addr} {c : Nat} {xs : List α} {r : List OA} (h : Rem (ol T e A c xs) Os r) (g : Go C k E (sl T A c xs :: Ps) r) : Go C k E Ps Os :=
  go_freeze _ (sl T A c xs) h (fun hp h1 H hl hl1 ⟨cs, hr, hs⟩ => sl_of_row hr hl1 (hs.up hl)) g
theorem go_freeze_dl {α : Type} {T : Ty α} {e : Nat} {A : Option Addr} {c : Nat} {xs : List α} {r : List OA} (h : Rem (dl T e A c xs) Os r) (g : Go C k E (sl T A c xs :: Ps) r) : Go C k E Ps Os :=
  go_freeze _ (sl T A c xs) h (fun hp h1 H hl hl1 ⟨cs, g1, g2, a, b, _, hr, hs, _⟩ => sl_of_row hr (a.tr hl1) (hs.up (b.tr hl1))) g
theorem ol_nil {α : Type} (T : Ty α) (e : Nat) (A : Option Addr) (hp h : Heap) : (ol T e A 0 []).p hp h := ⟨[], ⟨by simp, by simp, by simp [maxLen], .inl ⟨rfl, rfl⟩⟩, rfl⟩
theorem dl_nil {α : Type} (T : Ty α) (e : Nat) (A : Option Addr) (hp h : Heap) : (dl T e A 0 []).p hp h := ⟨[], Heap.nil, Heap.nil, Heap.nil_le _, Heap.nil_le _, Heap.nil_dj _, ⟨by simp, by simp, by simp [maxLen], .inl ⟨rfl, rfl⟩⟩, rfl, Wr.nil⟩
/-- From nothing: an empty list of one's own. -/
theorem go_own_nil {α : Type} (T : Ty α) (e : Nat) (A : Option Addr) (g : Go C k E Ps (ol T e A 0 [] :: Os)) : Go C k E Ps Os := fun a w hp ho hf hs hb =>
  g a w hp ho hf ⟨hs.inp, hs.ino, hs.dj, hs.ps, Heap.nil, ho, Heap.nil_le _, Heap.le_refl _, Heap.nil_dj _, ol_nil T e A _ _, hs.os⟩ hb
theorem go_down_nil {α : Type} (T : Ty α) (e : Nat) (A : Option Addr) (g : Go C k E Ps (dl T e A 0 [] :: Os)) : Go C k E Ps Os := fun a w hp ho hf hs hb =>
  g a w hp ho hf ⟨hs.inp, hs.ino, hs.dj, hs.ps, Heap.nil, ho, Heap.nil_le _, Heap.le_refl _, Heap.nil_dj _, dl_nil T e A _ _, hs.os⟩ hb
theorem dl_of_flat {α : Type} {T : Ty α} (hT : T.flat) {e : Nat} {A : Option Addr} {c : Nat} {xs : List α} {hp h : Heap} (q : (ol T e A c xs).p hp h) : (dl T e A c xs).p hp h := by
  obtain ⟨cs, r, s⟩ := q
  have key : ∀ (h' : Heap) {xs : List α} {cs : List Value}, Reps T hp xs cs → Reps T h' xs cs := fun h' {xs} => by
    induction xs with
    | nil => exact fun e => e
    | cons x xs ih =>
      rintro cs ⟨a, b, e, r, s⟩
      exact ⟨a, b, e, hT _ _ _ _ r, ih s⟩
  exact ⟨cs, h, Heap.nil, Heap.le_refl _, Heap.nil_le _, Heap.dj_symm (Heap.nil_dj _), r, key _ s, Wr.nil⟩
theorem ol_of_flat {α : Type} {T : Ty α} (hT : T.flat) {e : Nat} {A : Option Addr} {c : Nat} {xs : List α} {hp h : Heap} (q : (dl T e A c xs).p hp h) : (ol T e A c xs).p hp h := by
  obtain ⟨cs, h1, h2, a, b, d, r, s, _⟩ := q
  have key : ∀ (h' : Heap) {xs : List α} {cs : List Value}, Reps T h2 xs cs → Reps T h' xs cs := fun h' {xs} => by
    induction xs with
    | nil => exact fun e => e
    | cons x xs ih =>
      rintro cs ⟨a, b, e, r, s⟩
      exact ⟨a, b, e, hT _ _ _ _ r, ih s⟩
  exact ⟨cs, r.le a, key _ s⟩

/-! ### append -/
theorem run_append_zero {P : Program} {w : World} {t ty e : TypeId} {i : TypeInfo} (ht : P.underlying t = some (.slice e)) (hi : P.info? e = some i) (A B : Option Addr) (n c c2 : Nat) (hn : n ≤ c) :
    (Builtin.append_ #[t, t] ty #[.slice A n c, .slice B 0 c2]).run P w = .ok (.slice A n c) w := by
  cases A <;> cases B <;> simp [Builtin.append_, run_underlying ht, sizeOf, typeInfo, hi, Builtin.lenOf, hn, Builtin.firstCells, loadCells, loadCellsFrom, storeCells]
theorem sat_row_new {w : World} {hp ho : Heap} (hs : Sat w hp ho Ps Os) (hb : Base C w hp ho) {e size n c : Nat} (cs rest : List Value) (hl : cs.length = n * size) (hr : (cs ++ rest).length = c * size) (hn : n ≤ c) (hc : c ≤ maxLen) :
    ∃ ho', Sat { w with heap := w.heap.push (.cells (cs ++ rest).toArray e) } hp ho' Ps (row e size (some ⟨w.heap.size, 0, none⟩) n c cs :: Os) ∧ Base C { w with heap := w.heap.push (.cells (cs ++ rest).toArray e) } hp ho' :=
  sat_alloc hs hb (row e size (some ⟨w.heap.size, 0, none⟩) n c cs) (.cells (cs ++ rest).toArray e) fun h hh =>
    ⟨hl, hn, hc, .inr ⟨w.heap.size, _, rfl, hh, by simpa using hr, by simp [← hl]⟩⟩
theorem sat_append {tb : TB} (ht : TOk C.P tb) {w : World} {hp ho : Heap} {t ty e : TypeId} {s1 : Nat} {a1 : Bool} {z1 : Value} {y1 : Nat} {i : TI} (hi : lookT tb t = some ⟨.slice e, s1, a1, z1, y1⟩) (he : lookT tb e = some i)
    {A : Option Addr} {n c : Nat} {cs : List Value} {r : List OA} (h : Rem (row e i.size A n c cs) Os r) (hs : Sat w hp ho Ps Os) (hb : Base C w hp ho)
    {B : Option Addr} {m c2 : Nat} {news : List Value} (hl : news.length = m * i.size) (hnews : 0 < m → ∃ ad, B = some ad ∧ ∀ j v, news[j]? = some v → w.cell? (ad.add j) = some v) (h1 : oneCells news = true)
    (hz : (cellsL i.zero).length = i.size) (hby : (n + m) * i.bytes ≤ 140737488355328) (h63 : n + m ≤ maxLen) :
    ∃ A' c' w' ho', (Builtin.append_ #[t, t] ty #[.slice A n c, .slice B m c2]).run C.P w = .ok (.slice A' (n + m) c') w' ∧ Sat w' hp ho' Ps (row e i.size A' (n + m) c' (cs ++ news) :: r) ∧ Base C w' hp ho' := by
  obtain ⟨x, hinfo, hx1, hx2, hx3⟩ := (ht _ _ he).info
  have hu := (ht _ _ hi).u
  obtain ⟨g1, g2, la, lb, ldj, lrow, lsep⟩ := Sep.rem h hs.os
  have lrow' : Row e i.size A n c cs g1 := lrow
  obtain ⟨q1, q2, q3, q4⟩ := lrow
  rcases Nat.eq_zero_or_pos m with rfl | hm
  · have : news = [] := List.eq_nil_of_length_eq_zero (by simpa using hl)
    subst this
    refine ⟨A, c, w, ho, run_append_zero hu hinfo A B n c c2 q2, ⟨hs.inp, hs.ino, hs.dj, hs.ps, g1, g2, la, lb, ldj, ?_, lsep⟩, hb⟩
    show Row _ _ _ _ _ _ _
    simpa using lrow'
  · obtain ⟨ad, rfl, hnw⟩ := hnews hm
    by_cases hroom : n + m ≤ c
    · rcases q4 with ⟨_, q5⟩ | ⟨g, cur, rfl, hg, hcur, htake⟩
      · omega
      · have hgw := hs.ino _ _ (la _ _ hg)
        have hlen : n * i.size + news.length ≤ cur.size := by rw [hl, hcur, ← Nat.add_mul]; exact Nat.mul_le_mul_right _ hroom
        have hrun := run_append_room (P := C.P) w t ty e x hu hinfo g n c cur hgw ad m c2 news (by rw [hl, hx2]) hnw (oneCells_mem h1) hroom (by rw [hx2]; exact hlen)
        rw [hx2] at hrun
        have key : w.setRow g (cur.toList.take (n * i.size) ++ news ++ cur.toList.drop (n * i.size + news.length)).toArray = { w with heap := w.heap.setIfInBounds g (.cells (cur.toList.take (n * i.size) ++ news ++ cur.toList.drop (n * i.size + news.length)).toArray e (0, 0)) } := by
          have hlt : g < w.heap.size := (Array.getElem?_eq_some_iff.1 hgw).1
          have hgg : w.heap[g] = .cells cur e (0, 0) := (Array.getElem?_eq_some_iff.1 hgw).2
          unfold World.setRow
          congr 1
          apply Array.ext_getElem?
          intro j
          simp only [Array.getElem?_modify, Array.getElem?_setIfInBounds]
          by_cases ej : g = j
          · subst ej; simp [hlt, hgg]
          · simp [ej]
        rw [key] at hrun
        have hcur' : (.cells cur e (0, 0) : Obj) = .cells cur.toList.toArray e (0, 0) := by simp
        have hrem : Rem (pt g e cur.toList) (pt g e cur.toList :: r) r := .here
        have hs2 : Sat w hp ho Ps (pt g e cur.toList :: r) := ⟨hs.inp, hs.ino, hs.dj, hs.ps, g1, g2, la, lb, ldj, by show g1 g = _; rw [hg, hcur'], lsep⟩
        obtain ⟨ho2, hs3, hb3⟩ := sat_store (C := C) (cs' := cur.toList.take (n * i.size) ++ news ++ cur.toList.drop (n * i.size + news.length)) hrem hs2 hb
        refine ⟨some ⟨g, 0, none⟩, c, _, ho2, hrun, ?_, hb3⟩
        obtain ⟨k1, k2, ka, kb, kdj, kpt, ksep⟩ := hs3.os
        refine ⟨hs3.inp, hs3.ino, hs3.dj, hs3.ps, k1, k2, ka, kb, kdj, ⟨by simp [q1, hl, Nat.add_mul], hroom, q3, .inr ⟨g, _, rfl, kpt, ?_, ?_⟩⟩, ksep⟩
        · simp [List.length_take, List.length_drop]; omega
        · rw [htake]
          have : (n + m) * i.size = (cs ++ news).length := by simp [q1, hl, Nat.add_mul]
          rw [this]
          exact List.take_left
    · have holds : ∀ (b : Addr), A = some b → ∀ j v, cs[j]? = some v → w.cell? (b.add j) = some v := by
        rintro b rfl j v hj
        rcases q4 with ⟨q5, _⟩ | ⟨g, cur, e1, hg, hcur, htake⟩
        · have : cs = [] := List.eq_nil_of_length_eq_zero (by simp [q1, q5])
          subst this; simp at hj
        · cases e1
          rw [run_addOff, Nat.zero_add]
          refine cellH_world (cellH_le (la.tr hs.ino) ?_)
          rw [← htake, List.getElem?_take] at hj
          split at hj
          · simp only [cellH, hg]
            rw [← Array.getElem?_toList]; exact hj
          · cases hj
      have hm63 : ((n + m : Nat) : Int) ≤ 9223372036854775807 := by simp only [maxLen] at h63; omega
      have hcap := grownCap_ge w (n + m) c e
      have hcapm := grownCap_le_maxLen w (n + m) c e h63
      have hzs : (i.zero.cells).size = i.size := by rw [cellsL_eq]; simpa using hz
      have hdrew : ∀ (ob : Obj), (w.drew.alloc ob) = { (({ w with drawn := w.drawn + 1 } : World)) with heap := w.heap.push ob } := fun _ => rfl
      have fin : ∀ (w' : World), w' = w.drew.alloc (.cells (cs.toArray ++ news.toArray ++ Builtin.zeroCells i.zero.cells (grownCap w (n + m) c e - (n + m))) e) →
          ∃ ho', Sat w' hp ho' Ps (row e i.size (some ⟨w.heap.size, 0, none⟩) (n + m) (grownCap w (n + m) c e) (cs ++ news) :: r) ∧ Base C w' hp ho' := by
        rintro w' rfl
        have hs2 : Sat { w with drawn := w.drawn + 1 } hp ho Ps r := ⟨hs.inp, hs.ino, hs.dj, hs.ps, Sep.mono lb lsep⟩
        have := sat_row_new (C := C) (e := e) (size := i.size) (n := n + m) (c := grownCap w (n + m) c e) hs2 hb.drew (cs ++ news) (Builtin.zeroCells i.zero.cells (grownCap w (n + m) c e - (n + m))).toList (by simp [q1, hl, Nat.add_mul]) (by
          simp only [List.length_append, Array.length_toList, size_zeroCells, hzs, q1, hl, ← Nat.add_mul]; congr 1; omega) hcap hcapm
        have hobj : (cs.toArray ++ news.toArray ++ Builtin.zeroCells i.zero.cells (grownCap w (n + m) c e - (n + m))) = (cs ++ news ++ (Builtin.zeroCells i.zero.cells (grownCap w (n + m) c e - (n + m))).toList).toArray := by
          apply Array.ext'; simp
        rw [hdrew, hobj]
        exact this
      obtain ⟨ho2, f1, f2⟩ := fin _ rfl
      refine ⟨_, _, _, ho2, ?_, f1, f2⟩
      cases A with
      | none =>
        have hc0 : n = 0 ∧ c = 0 := by
          rcases q4 with q | ⟨g, cur, e1, _⟩
          · exact q
          · cases e1
        obtain ⟨rfl, rfl⟩ := hc0
        have : cs = [] := List.eq_nil_of_length_eq_zero (by simpa using q1)
        subst this
        have hrun := run_append_nil (P := C.P) w t ty e x i.zero hu hinfo hx1 ad m c2 news (by rw [hl, hx2]) hnw hm (by simpa using hm63) (by rw [hx3]; simp at hby; omega)
        simpa using hrun
      | some b =>
        have hrun := run_append_grow (P := C.P) w t ty e x i.zero hu hinfo hx1 b n c cs (by rw [q1, hx2]) (holds b rfl) ad m c2 news (by rw [hl, hx2]) hnw (by omega) hm63 (by rw [hx3]; exact growslice_fits (by omega) hby)
        exact hrun
end
end Go.Proofs.Ytdkfpgdfjnaciaa.SL
