/- More rules: arrays, read atoms said together, an owned list whose elements are only read from then on. -/
import Derived.Test.YtdkfpgdfjnaciaaSC
import Derived.Test.YtdkfpgdfjnaciaaS9
set_option linter.unusedVariables false
set_option linter.unusedSimpArgs false
namespace Go.Proofs.Ytdkfpgdfjnaciaa.SL
theorem idxA_val {C : Ctx} {E : Env} {Ps : List PA} {Os : List OA} {o : Oper} {tb : TB} (ht : TOk C.P tb) {t e : TypeId} {x y : Operand} {b oo n : Nat} {kk : IntKind} {j : Int} {s1 : Nat} {a1 : Bool} {z1 : Value} {y1 : Nat} {i : TI} (ho : o.op = .indexAddr t x y)
    (hx : ev E x = some (.pointer (some ⟨b, oo, none⟩))) (hy : ev E y = some (.int kk j)) (hi : lookT tb t = some ⟨.array n e, s1, a1, z1, y1⟩) (he : lookT tb e = some i) (hj : 0 ≤ j ∧ j < n) :
    ∀ a w hp ho, Fits C.N E a → Sat w hp ho Ps Os → (execOp a.eval o).run C.P w = .ok (.value (.pointer (some ⟨b, oo + j.toNat * i.size, none⟩))) w := fun a w hp ho' hf hs => by
  have hu := run_und (ht _ _ hi).u w
  have hs := (ht _ _ he).size w
  simp [execOp, ho, hf.ev hx, hf.ev hy, Instr.indexAt, Instr.sureAddr, asIntOf, hu, hj.1, hj.2, hs, run_addOff]
theorem putL_put : ∀ (n : Nat) (vs l : List Value), n + vs.length ≤ l.length → putL n vs l = some (putS n vs l)
  | 0, [], l, _ => by simp [putL, putS]
  | 0, v :: vs, [], h => by simp at h
  | 0, v :: vs, a :: l, h => by
    simp only [List.length_cons] at h
    simp only [putL, putL_put 0 vs l (by omega)]
    simp [putS]
  | n + 1, vs, [], h => by simp at h
  | n + 1, vs, a :: l, h => by
    simp only [List.length_cons] at h
    simp only [putL, putL_put n vs l (by omega)]
    simp [putS, Nat.add_right_comm n 1]
def PA.all (l : List PA) : PA := ⟨fun h => ∀ p, p ∈ l → p.p h, fun hl h p hp => p.up hl (h p hp)⟩
section
variable {C : Ctx} {k : List It} {E : Env} {Ps : List PA} {Os : List OA}
theorem go_pall {l : List PA} (h : PA.all l ∈ Ps) (g : Go C k E (l ++ Ps) Os) : Go C k E Ps Os := fun a w hp ho hf hs hb =>
  g a w hp ho hf ⟨hs.inp, hs.ino, hs.dj, fun p hp' => (List.mem_append.1 hp').elim (hs.ps _ h p) (hs.ps p), hs.os⟩ hb
theorem go_mkall (l : List PA) (h : Subs Ps l) (g : Go C k E (PA.all l :: Ps) Os) : Go C k E Ps Os := go_ent (PA.all l) (fun hp a p hq => a p (h.mem p hq)) g
/-- A part of what is owned is henceforth only read. -/
theorem go_part (A B : OA) {r : List OA} (h : Rem A Os r) (hi : ∀ hp h1, A.p hp h1 → ∃ ha hb : Heap, ha.le h1 ∧ hb.le h1 ∧ ha.dj hb ∧ ∀ H, hp.le H → hb.le H → B.p H ha) (g : Go C k E Ps (B :: r)) : Go C k E Ps Os := fun a w hp ho hf hs hb => by
  obtain ⟨h1, h2, i, b, c, d, e⟩ := Sep.rem h hs.os
  obtain ⟨ha, hc, la, lc, dac, hB⟩ := hi hp h1 d
  have dj1 : hp.dj hc := Heap.dj_le hs.dj (Heap.le_refl _) (lc.tr i)
  have djA : hp.dj ha := Heap.dj_le hs.dj (Heap.le_refl _) (la.tr i)
  have d12 : (hp.add hc).dj h2 := Heap.add_dj (Heap.dj_le hs.dj (Heap.le_refl _) b) (Heap.dj_le c lc (Heap.le_refl _))
  have dA2 : ha.dj h2 := Heap.dj_le c la (Heap.le_refl _)
  have dpA : (hp.add hc).dj ha := Heap.add_dj djA (Heap.dj_symm dac)
  refine g a w (hp.add hc) (ha.add h2) hf ⟨Heap.add_le hs.inp ((lc.tr i).tr hs.ino), Heap.add_le ((la.tr i).tr hs.ino) (b.tr hs.ino), Heap.dj_symm (Heap.add_dj (Heap.dj_symm dpA) (Heap.dj_symm d12)), fun p hq => p.up (Heap.le_add_left _ _) (hs.ps p hq),
      ha, h2, Heap.le_add_left _ _, Heap.le_add_right dA2, dA2, hB _ (Heap.le_add_left _ _) (Heap.le_add_right dj1), Sep.up (Heap.le_add_left _ _) e⟩
    ⟨hb.hp0.tr (Heap.le_add_left _ _), hb.hf, Heap.dj_symm (Heap.add_dj (Heap.dj_symm hb.djp) (Heap.dj_le (Heap.dj_symm hb.djo) (lc.tr i) (Heap.le_refl _))),
      Heap.dj_symm (Heap.add_dj (Heap.dj_le (Heap.dj_symm hb.djo) (la.tr i) (Heap.le_refl _)) (Heap.dj_le (Heap.dj_symm hb.djo) b (Heap.le_refl _))), hb.rest⟩
theorem go_dl_ol {α : Type} {T : Ty α} {e : Nat} {A : Option Addr} {c : Nat} {xs : List α} {r : List OA} (h : Rem (dl T e A c xs) Os r) (g : Go C k E Ps (ol T e A c xs :: r)) : Go C k E Ps Os :=
  go_part _ (ol T e A c xs) h (fun hp h1 ⟨cs, g1, g2, a, b, d, hr, hs, _⟩ => ⟨g1, g2, a, b, d, fun H _ l2 => ⟨cs, hr, hs.up l2⟩⟩) g
theorem go_bound {φ : Prop} (A : OA) {r : List OA} (h : Rem A Os r) (e : ∀ hp ho, A.p hp ho → φ) (g : φ → Go C k E Ps Os) : Go C k E Ps Os := go_ofact A h e g
end
/-- Cells of a part of a block. -/
theorem at_part {Ps : List PA} {Os : List OA} {b e oo n : Nat} {cur news : List Value} {rr : List OA} (h : Rem (pt b e cur) Os rr) (hl : news.length = n) (hlt : oo + n ≤ cur.length) (h3 : (cur.drop oo).take n = news) : At Ps Os b oo n news :=
  at_any h hl (fun i v hv => by
    rw [← h3, List.getElem?_take] at hv
    split at hv
    · rw [List.getElem?_drop] at hv; exact hv
    · cases hv)
theorem at_one {Ps : List PA} {Os : List OA} {b e oo : Nat} {cur : List Value} {v : Value} {rr : List OA} (h : Rem (pt b e cur) Os rr) (h3 : cur[oo]? = some v) : At Ps Os b oo 1 [v] :=
  at_any h rfl (fun i u hv => by
    cases i with
    | zero => simp at hv; subst hv; simpa using h3
    | succ i => simp at hv)
/-- A contract that only reads a list, where the list is one's own. -/
theorem Spec.ownl {P : Program} {f : FuncId} {args : Array Value} {α : Type} {T : Ty α} {e : Nat} {A : Option Addr} {c : Nat} {xs : List α} {Ps : List PA} {Q : Value → Prop} (s : Spec P f args (sl T A c xs :: Ps) [] (fun v Ps' Os' => Q v ∧ Ps' = [] ∧ Os' = [])) : Spec P f args Ps [ol T e A c xs] (fun v Ps' Os' => Q v ∧ Ps' = [] ∧ Os' = [ol T e A c xs]) :=
  (s.lend (ol T e A c xs) lend_ol (fun v P' O' h => ⟨h.2.1, by rw [h.2.2]; intro B hB; cases hB⟩)).imp fun v P' O' ⟨O2, ⟨h1, _, h3⟩, h4, h5⟩ => ⟨h1, h4, by rw [h5, h3]⟩
theorem fc_int {kk : IntKind} : ∀ (h : Heap) (x : Int) (cs : List Value), (tInt kk).rep h x cs → cs = (fun y : Int => [Value.int kk y]) x := fun _ _ _ h => h
theorem Sl.pre {α : Type} {T : Ty α} {hh : Heap} {A : Option Addr} {c : Nat} {xs : List α} (s : Sl T hh A c xs) (n : Nat) : Sl T hh A c (xs.take n) :=
  ⟨by have := s.1; simp; omega, s.2.1, s.2.2.1, fun j x hj => by
    rw [List.getElem?_take] at hj
    split at hj
    · exact s.2.2.2 j x hj
    · cases hj⟩
theorem Sl.suf {α : Type} {T : Ty α} {hh : Heap} {A : Option Addr} {c : Nat} {xs : List α} (s : Sl T hh A c xs) {n : Nat} (hn : n ≤ xs.length) : Sl T hh (if c = n then A else A.map (·.add (n * T.size))) (c - n) (xs.drop n) := by
  have h1 := s.1
  have := Sl.part s (l := n) (h := xs.length) (m := c) hn h1 (Nat.le_refl _) (Nat.le_refl _)
  rwa [List.take_of_length_le (by simp)] at this
theorem rem_val {C : Ctx} {E : Env} {Ps : List PA} {Os : List OA} {o : Oper} {t t2 : TypeId} {x y : Operand} {kk : IntKind} {a b : Int} (ho : o.op = .binOp .rem t x y t2) (hx : ev E x = some (.int kk a)) (hy : ev E y = some (.int kk b)) (hb : b ≠ 0) :
    ∀ ac w hp ho, Fits C.N E ac → Sat w hp ho Ps Os → (execOp ac.eval o).run C.P w = .ok (.value (.int kk (a.tmod b))) w := fun ac w hp ho' hf hs => by
  have h4 := run_intV (P := C.P) w (op := .rem) (k := kk) (k' := kk) (a := a) (b := b) (v := .int kk (a.tmod b)) (by cases kk <;> rfl) (by simp [intV, hb]) t
  have h1 : (eqGuard .rem t x y (.int kk a) (.int kk b)).run C.P w = .ok () w := by simp [eqGuard]
  simp only [execOp, ho, hf.ev hx, hf.ev hy, Sem.run_bind, h1, h4, Result.andThen_ok, Sem.run_pure]
theorem quo_val {C : Ctx} {E : Env} {Ps : List PA} {Os : List OA} {o : Oper} {t t2 : TypeId} {x y : Operand} {kk : IntKind} {a b : Int} (ho : o.op = .binOp .quo t x y t2) (hx : ev E x = some (.int kk a)) (hy : ev E y = some (.int kk b)) (hb : b ≠ 0) :
    ∀ ac w hp ho, Fits C.N E ac → Sat w hp ho Ps Os → (execOp ac.eval o).run C.P w = .ok (.value (.int kk (kk.wrap (a.tdiv b)))) w := fun ac w hp ho' hf hs => by
  have h4 := run_intV (P := C.P) w (op := .quo) (k := kk) (k' := kk) (a := a) (b := b) (v := .int kk (kk.wrap (a.tdiv b))) (by cases kk <;> rfl) (by simp [intV, hb]) t
  have h1 : (eqGuard .quo t x y (.int kk a) (.int kk b)).run C.P w = .ok () w := by simp [eqGuard]
  simp only [execOp, ho, hf.ev hx, hf.ev hy, Sem.run_bind, h1, h4, Result.andThen_ok, Sem.run_pure]
theorem Spec.less {P : Program} {f : FuncId} {args : Array Value} {Ps Ps' : List PA} {Os : List OA} {Q : Value → List PA → List OA → Prop} (s : Spec P f args Ps Os Q) (h : ∀ q, q ∈ Ps → q ∈ Ps') : Spec P f args Ps' Os Q :=
  ⟨s.fn, fun w hp ho hf hs a b c => s.calls w hp ho hf ⟨hs.inp, hs.ino, hs.dj, fun p hp' => hs.ps p (h p hp'), hs.os⟩ a b c⟩
theorem tmod_cast (a b : Nat) : Int.tmod (a : Int) (b : Int) = ((a % b : Nat) : Int) := by
  rw [Int.tmod_eq_emod_of_nonneg (by omega)]; rfl
theorem at_olp {Ps : List PA} {Os : List OA} {α : Type} {T : Ty α} (fc : α → List Value) (hT : ∀ h x cs, T.rep h x cs → cs = fc x) {e b c n p : Nat} {xs : List α} {x : α} {rr : List OA} {out : List Value} (h : Rem (ol T e (some ⟨b, 0, none⟩) c xs) Os rr) (j : Nat) (hj : xs[j]? = some x) (hp : p = 0 + j * T.size) (ho : takeL n (fc x) = some out) :
    At Ps Os b p n out := by
  subst hp
  exact at_ol fc hT 0 h hj ho
theorem Reps.head {α : Type} {T : Ty α} {h : Heap} {xs : List α} {cs : List Value} (r : Reps T h xs cs) {m : Nat} (hm : m ≤ xs.length) : Reps T h (xs.take m) (cs.take (m * T.size)) := by
  have := (Reps.split (xs := xs.take m) (ys := xs.drop m) (by rw [List.take_append_drop]; exact r)).1
  rwa [List.length_take, Nat.min_eq_left hm] at this
end Go.Proofs.Ytdkfpgdfjnaciaa.SL
