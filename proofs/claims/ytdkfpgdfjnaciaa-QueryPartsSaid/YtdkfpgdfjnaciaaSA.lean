/- Ranging over a function: the loop's rounds, the calls of its yield. -/
import Derived.Test.YtdkfpgdfjnaciaaS7
import Derived.RangeFuncRecord
set_option linter.unusedVariables false
set_option linter.unusedSimpArgs false
namespace Go.Proofs.Ytdkfpgdfjnaciaa.SL

theorem put_le {w : World} {b : Nat} {o' : Obj} {h : Heap} (hl : h.le (hpOf w)) (hn : h b = none) : h.le (hpOf (w.putObj b o')) := fun x u e => by
  have hx : x ≠ b := fun q => by subst q; rw [hn] at e; cases e
  have := hl _ _ e
  simp only [hpOf, World.putObj] at this ⊢
  rw [Array.getElem?_setIfInBounds_ne (Ne.symm hx)]
  exact this
theorem put_one {w : World} {b : Nat} {o o' : Obj} (hb : w.heap[b]? = some o) : (Heap.one b o').le (hpOf (w.putObj b o')) := Heap.one_le (by
  have hlt : b < w.heap.size := (Array.getElem?_eq_some_iff.1 hb).1
  simp [hpOf, World.putObj, hlt])
theorem put_rest {w : World} {b : Nat} {o' : Obj} : Rest w (w.putObj b o') := ⟨rfl, rfl, rfl, Nat.le_refl _, by simp [World.putObj]⟩
theorem dj_one {h : Heap} {b : Nat} {o o' : Obj} (d : (Heap.one b o).dj h) : (Heap.one b o').dj h := fun x => by
  rcases d x with q | q
  · left
    unfold Heap.one at q ⊢
    split at q
    · cases q
    · rename_i hx; rw [if_neg hx]
  · exact .inr q
theorem dj_at {h h' : Heap} {b : Nat} {o : Obj} (d : h.dj h') (e : h b = some o) : h' b = none := by
  rcases d b with q | q
  · rw [e] at q; cases q
  · exact q
theorem one_at (b : Nat) (o : Obj) : Heap.one b o b = some o := by simp [Heap.one]

/-- A loop's yield: at each value that it is called with a round is gone through, and it says 'more'. -/
structure Yld (P : Program) (l : Nat) {α : Type} (enc : α → Value) (Px : List α → α → List PA) (R : List α → OA) : Prop where
  go : ∀ (pre : List α) (x : α) (w : World) (hp ho hf : Heap), Sat w hp ho (Px pre x) [R pre] → hf.le (hpOf w) → hf.dj hp → hf.dj ho →
    ∃ fn tmps assign body, (Instr.yield l #[enc x]).run P w = .ok (.round l fn tmps assign body) w ∧
      RoundIn Fence.wide 0 P l fn tmps assign body w (fun e w' => ∃ hp' ho', e = .returned (.bool true) ∧ Sat w' hp' ho' [] [R (pre ++ [x])] ∧ hp.le hp' ∧ hf.le (hpOf w') ∧ hf.dj hp' ∧ hf.dj ho' ∧ Rest w w')
section
variable {C : Ctx} {k : List It} {E : Env} {Ps : List PA} {Os : List OA}
variable {o : Oper} {ops : Array Oper} {S : World → Prop} {r : Pl} {f : Bool}
theorem go_skipY (hw : wants ops E o = some false) (hd : okDst C.N o.dst = true) (g : Go C (.ops ops S r :: k) (setE o.dst undef E) Ps Os) : Go C (.ops ops S (.yld o r) :: k) E Ps Os := fun a w hp ho hf hs hb => by
  show rwp _ _ _ _ _ _ _
  rw [rwp, if_neg (by rw [wants_eq hf hw]; simp)]
  exact g _ w hp ho (hf.put hd undef) hs hb
theorem go_yield {α : Type} {enc : α → Value} {Px : List α → α → List PA} {R : List α → OA} {l : Nat} (hy : Yld C.P l enc Px R) (pre : List α) (x : α) {fx ax : Operand} {tys : Array TypeId} {rr : List OA} (ho : o.op = .call ⟨.value fx, #[ax], tys⟩) (hw : wants ops E o = some true)
    (hfx : ev E fx = some (.func (.yield l) #[] #[])) (hax : ev E ax = some (enc x)) (hd : okDst C.N o.dst = true) (hP : Subs Ps (Px pre x)) (hO : Takes Os [R pre] rr)
    (g : Go C (.ops ops S r :: k) (setE o.dst (.bool true) E) Ps (R (pre ++ [x]) :: rr)) : Go C (.ops ops S (.yld o r) :: k) E Ps Os := fun a w hp ho' hf hs hb => by
  show rwp _ _ _ _ _ _ _
  rw [rwp, if_pos (wants_eq hf hw)]
  obtain ⟨h1, h2, a1, b1, c1, d1, e1⟩ := Sep.takes hO hs.os
  obtain ⟨fn, tmps, assign, body, hrun, hround⟩ := hy.go pre x w hp h1 (C.hf.add h2) ⟨hs.inp, a1.tr hs.ino, Heap.dj_le hs.dj (Heap.le_refl _) a1, (hs.ents hP.ents).ps, d1⟩ (Heap.add_le hb.hf (b1.tr hs.ino))
    (Heap.add_dj hb.djp (Heap.dj_symm (Heap.dj_le hs.dj (Heap.le_refl _) b1))) (Heap.add_dj (Heap.dj_le hb.djo (Heap.le_refl _) a1) (Heap.dj_symm c1))
  have hex : (execOp a.eval o).run C.P w = .ok (.round l fn tmps assign body) w := by
    simp [execOp, ho, resolve, hf.ev hfx, hf.ev hax, Deferred.ofValue, invoke, hrun]
  refine ⟨fun _ _ => trivial, ?_⟩
  rw [show Fence.wide.round = none from rfl, Oper.semAt_none, hex, Oper.uponIn_round]
  refine ⟨fun h => by simp [Fence.wide] at h, hround.mono ?_⟩
  rintro e w' ⟨hp', ho2, rfl, hs', hle, hfl, djp, djo, hrest⟩
  have dfo : C.hf.dj h2 := Heap.dj_le hb.djo (Heap.le_refl _) b1
  have l2 : h2.le (C.hf.add h2) := Heap.le_add_right dfo
  have dA : ho2.dj h2 := Heap.dj_symm (Heap.dj_le djo l2 (Heap.le_refl _))
  have dB : hp'.dj h2 := Heap.dj_symm (Heap.dj_le djp l2 (Heap.le_refl _))
  have sat : Sat w' hp' (ho2.add h2) Ps ([R (pre ++ [x])] ++ rr) := ⟨hs'.inp, Heap.add_le hs'.ino (l2.tr hfl), Heap.dj_symm (Heap.add_dj (Heap.dj_symm hs'.dj) (Heap.dj_symm dB)),
    fun p hp0 => p.up hle (hs.ps p hp0), Sep.app (Heap.le_add_left _ _) (Heap.le_add_right dA) dA hs'.os (Sep.up hle e1)⟩
  have base : Base C w' hp' (ho2.add h2) := ⟨hb.hp0.tr hle, (Heap.le_add_left _ _).tr hfl, Heap.dj_le djp (Heap.le_add_left _ _) (Heap.le_refl _),
    Heap.dj_symm (Heap.add_dj (Heap.dj_symm (Heap.dj_le djo (Heap.le_add_left _ _) (Heap.le_refl _))) (Heap.dj_symm dfo)), hb.rest.trans hrest⟩
  exact g _ w' hp' _ (hf.put hd (.bool true)) sat base
end

/-! ### the statement -/
/-- A round's frame. -/
def rc (P : Program) (n l : Nat) (w0 : World) (hp0 hf : Heap) : Ctx := ⟨P, default, ⟨n, []⟩, some l, w0, hp0, hf, fun _ _ _ => False, fun _ _ _ => False, fun _ _ _ h => h, fun _ _ h => h⟩
/-- Between two rounds: the loop's record, and what the body keeps. -/
def loopA (Ps : List PA) (l : Nat) (rec : Loop) (Os : List OA) : OA :=
  ⟨fun hp ho => (∀ p, p ∈ Ps → p.p hp) ∧ ∃ h2, h2.le ho ∧ (Heap.one l (.loop rec)).le ho ∧ (Heap.one l (.loop rec)).dj h2 ∧ Sep hp Os h2,
    fun hl ⟨a, h2, b, c, d, e⟩ => ⟨fun p hp => p.up hl (a p hp), h2, b, c, d, Sep.up hl e⟩⟩
def after (C : Ctx) (D : Nat) : Ctx := { C with N := ⟨C.N.n, { target := .collected D, args := #[] } :: C.N.ds⟩, hf := C.hf.add (Heap.one D (.deferred (some []))) }
section
variable {C : Ctx} {k : List It} {E : Env} {Ps : List PA} {Os : List OA}
theorem rounds {P : Program} {n l t : Nat} {α : Type} {enc : α → Value} {Px : List α → α → List PA} {assign body : Code} {tmps : Array Value} {fn : FuncId} {D : Nat} (O : List α → List OA) (hN : tmps.size = n) (ht : Nat.blt t n = true) (hE : ∀ d v, look E d = some v → tmps[d]? = some v)
    {X : Type} (chg : X → Env) (rest : Env) (O1 : List α → α → X → List OA) (J : List α → α → X → Prop)
    (ha : ∀ pre x w0 hp0 hf0, Go (rc P n l w0 hp0 hf0) [.code assign, .back (Bk (rc P n l w0 hp0 hf0) chg rest (fun _ => Px pre x ++ Ps) (O1 pre x) (J pre x) (fun _ => 0) 1)] ((t, enc x) :: E) (Px pre x ++ Ps) (O pre))
    (hb : ∀ pre x y, J pre x y → ∀ w0 hp0 hf0, Go (rc P n l w0 hp0 hf0) [.code body, .back (Bk (rc P n l w0 hp0 hf0) (fun _ : Unit => []) [] (fun _ => Ps) (fun _ => O (pre ++ [x])) (fun _ => True) (fun _ => 0) 1)] (chg y ++ rest) (Px pre x ++ Ps) (O1 pre x y)) :
    Yld P l enc Px (fun pre => loopA Ps l { state := .ready, pending := none, fn, tmps, params := #[t], assign, body, defers := D } (O pre)) := ⟨fun pre x w hp ho hf hs hfw d1 d2 => by
  generalize hrec : ({ state := .ready, pending := none, fn, tmps, params := #[t], assign, body, defers := D } : Loop) = rec at *
  obtain ⟨g1, _, la, _, _, ⟨hps, h2, lb, lr, dr, sO⟩, _⟩ := hs.os
  have lro : (Heap.one l (.loop rec)).le ho := lr.tr la
  have hl : w.heap[l]? = some (.loop rec) := hs.ino _ _ (lro _ _ (one_at _ _))
  have hyr := run_yield (P := P) (args := #[enc x]) hl (by rw [← hrec]; rfl)
  refine ⟨_, _, _, _, hyr, ?_⟩
  have dfr : hf.dj (Heap.one l (.loop rec)) := Heap.dj_le d2 (Heap.le_refl _) lro
  have dpr : hp.dj (Heap.one l (.loop rec)) := Heap.dj_le hs.dj (Heap.le_refl _) lro
  have lO : h2.le ho := lb.tr la
  have fl : hf l = none := by
    rcases dfr l with q | q
    · exact q
    · rw [one_at] at q; cases q
  refine roundIn_of_wpIn (F := Fence.wide) (n := 0) trivial ?_
  have hfit : Fits ⟨n, []⟩ ((t, enc x) :: E) { tmps := (rec.params.zip #[enc x]).foldl (fun tmps (t, a) => tmps.setIfInBounds t a) rec.tmps, defers := [] } := by
    have hz : (rec.params.zip #[enc x]).foldl (fun tmps (t, a) => tmps.setIfInBounds t a) rec.tmps = tmps.setIfInBounds t (enc x) := by rw [← hrec]; simp
    rw [hz]
    refine ⟨by simp [hN], rfl, fun d v e => ?_⟩
    simp only [look] at e
    have htl : t < tmps.size := by rw [hN]; exact Nat.le_of_ble_eq_true ht
    show (tmps.setIfInBounds t (enc x))[d]? = some v
    cases hbq : Nat.beq t d with
    | true =>
      rw [hbq] at e
      simp at e
      subst e
      rw [← Nat.eq_of_beq_eq_true hbq]
      simp [htl]
    | false =>
      rw [hbq] at e
      have hne : t ≠ d := fun q => by subst q; rw [Nat.beq_refl] at hbq; cases hbq
      rw [Array.getElem?_setIfInBounds_ne hne]
      exact hE d v e
  have hpx : ∀ p, p ∈ Px pre x ++ Ps → p.p hp := fun p hm => by
    rcases List.mem_append.1 hm with q | q
    · exact hs.ps p q
    · exact hps p q
  have sat1 : Sat w hp h2 (Px pre x ++ Ps) (O pre) := ⟨hs.inp, lO.tr hs.ino, Heap.dj_le hs.dj (Heap.le_refl _) lO, hpx, sO⟩
  have hfr : (hf.add (Heap.one l (.loop rec))).le (hpOf w) := Heap.add_le hfw (lro.tr hs.ino)
  have base1 : Base (rc P n l w hp (hf.add (Heap.one l (.loop rec)))) w hp h2 := ⟨Heap.le_refl _, hfr, Heap.add_dj d1 (Heap.dj_symm dpr), Heap.add_dj (Heap.dj_le d2 (Heap.le_refl _) lO) dr, .refl _⟩
  have step1 := ha pre x w hp (hf.add (Heap.one l (.loop rec))) _ w hp h2 hfit sat1 base1
  rw [show rec.assign = assign from by rw [← hrec], show rec.body = body from by rw [← hrec]]
  refine wpIn_mono (show assign.wpIn (Fence.wide.inRound l) 0 P _ _ w from step1) fun e a1 w1 q => ?_
  cases e with
  | normal =>
    obtain ⟨y, hp1, ho1, f1, s1, b1, j1, _⟩ := q
    have hl1 : w1.heap[l]? = some (.loop rec) := b1.hf _ _ (Heap.le_add_right dfr _ _ (one_at _ _))
    refine ⟨_, run_beginRound hl1 (by rw [← hrec]), ?_⟩
    have r1 : (Heap.one l (.loop rec)).dj hp1 := Heap.dj_le b1.djp (Heap.le_add_right dfr) (Heap.le_refl _)
    have r2 : (Heap.one l (.loop rec)).dj ho1 := Heap.dj_le b1.djo (Heap.le_add_right dfr) (Heap.le_refl _)
    have r3 : hf.dj hp1 := Heap.dj_le b1.djp (Heap.le_add_left _ _) (Heap.le_refl _)
    have r4 : hf.dj ho1 := Heap.dj_le b1.djo (Heap.le_add_left _ _) (Heap.le_refl _)
    have dfb : ∀ o', hf.dj (Heap.one l o') := fun o' => Heap.dj_symm (dj_one (Heap.dj_symm dfr))
    have step2 := hb pre x y j1 (w1.putObj l (.loop { rec with state := .busy })) hp1 (hf.add (Heap.one l (.loop { rec with state := .busy }))) a1 _ hp1 ho1 f1
      ⟨put_le s1.inp (dj_at r1 (one_at _ _)), put_le s1.ino (dj_at r2 (one_at _ _)), s1.dj, s1.ps, s1.os⟩
      ⟨Heap.le_refl _, Heap.add_le (put_le ((Heap.le_add_left _ _).tr b1.hf) fl) (put_one hl1), Heap.add_dj r3 (dj_one r1), Heap.add_dj r4 (dj_one r2), .refl _⟩
    refine wpIn_mono (show body.wpIn (Fence.wide.inRound l) 0 P _ _ _ from step2) fun e2 a2 w3 q2 => ?_
    cases e2 with
    | normal =>
      obtain ⟨_, hp3, ho3, f3, s3, b3, _, _⟩ := q2
      have hl3 : w3.heap[l]? = some (.loop { rec with state := .busy }) := b3.hf _ _ (Heap.le_add_right (dfb _) _ _ (one_at _ _))
      have he := run_endRound (P := P) none hl3
      have hrr : ({ { rec with state := LoopState.busy } with state := if (none : Option Code).isNone then LoopState.ready else LoopState.done, pending := none } : Loop) = rec := by rw [← hrec]; rfl
      rw [hrr] at he
      refine ⟨_, _, he, ?_⟩
      have t1 : (Heap.one l (.loop { rec with state := .busy })).dj hp3 := Heap.dj_le b3.djp (Heap.le_add_right (dfb _)) (Heap.le_refl _)
      have t2 : (Heap.one l (.loop { rec with state := .busy })).dj ho3 := Heap.dj_le b3.djo (Heap.le_add_right (dfb _)) (Heap.le_refl _)
      have t3 : hf.dj hp3 := Heap.dj_le b3.djp (Heap.le_add_left _ _) (Heap.le_refl _)
      have t4 : hf.dj ho3 := Heap.dj_le b3.djo (Heap.le_add_left _ _) (Heap.le_refl _)
      have dN : (Heap.one l (.loop rec)).dj ho3 := dj_one t2
      refine ⟨hp3, (Heap.one l (.loop rec)).add ho3, rfl, ⟨put_le s3.inp (dj_at t1 (one_at _ _)), Heap.add_le (put_one hl3) (put_le s3.ino (dj_at t2 (one_at _ _))), Heap.dj_symm (Heap.add_dj (dj_one t1) (Heap.dj_symm s3.dj)), (fun _ h => nomatch h),
          sep_one ⟨s3.ps, ho3, Heap.le_add_right dN, Heap.le_add_left _ _, dN, s3.os⟩⟩, b1.hp0.tr b3.hp0, put_le ((Heap.le_add_left _ _).tr b3.hf) fl, t3, Heap.dj_symm (Heap.add_dj (Heap.dj_symm (dfb _)) (Heap.dj_symm t4)),
          (b1.rest.trans put_rest).trans (b3.rest.trans put_rest)⟩
    | exit i => exact q2.elim
    | goto i => exact q2.elim
    | ret => exact q2.elim
    | panic c => exact q2.elim
    | outgrown => exact q2.elim
  | exit i => exact q.elim
  | goto i => exact q.elim
  | ret => exact q.elim
  | panic c => exact q.elim
  | outgrown => exact q.elim⟩
theorem go_range {α : Type} {enc : α → Value} {Px : List α → α → List PA} {g : Operand} {t : Nat} {assign body : Code} {gf : FuncId} {first cap : Array Value} (hro : C.ro = none) (hg : ev E g = some (.func (.func gf) first cap)) (ht : Nat.blt t C.N.n = true)
    (O : List α → List OA) (OsI OsI' : List OA) {r1 rr : List OA} (hO1 : Takes Os OsI r1) (hO2 : Takes r1 (O []) rr) (PsI : List PA) (hP : Subs Ps PsI) (Sx : List α → Prop)
    (hseq : ∀ (l : Nat) (R : List α → OA), Yld C.P l enc Px R → Spec C.P gf (first ++ #[.func (.yield l) #[] #[]] ++ cap) PsI (R [] :: OsI) (fun v Ps' Os' => ∃ xs, Sx xs ∧ Ps' = [] ∧ Os' = R xs :: OsI'))
    {X : Type} (chg : X → Env) (rest : Env) (O1 : List α → α → X → List OA) (J : List α → α → X → Prop)
    (ha : ∀ l pre x w0 hp0 hf0, Go (rc C.P C.N.n l w0 hp0 hf0) [.code assign, .back (Bk (rc C.P C.N.n l w0 hp0 hf0) chg rest (fun _ => Px pre x ++ Ps) (O1 pre x) (J pre x) (fun _ => 0) 1)] ((t, enc x) :: E) (Px pre x ++ Ps) (O pre))
    (hb : ∀ l pre x y, J pre x y → ∀ w0 hp0 hf0, Go (rc C.P C.N.n l w0 hp0 hf0) [.code body, .back (Bk (rc C.P C.N.n l w0 hp0 hf0) (fun _ : Unit => []) [] (fun _ => Ps) (fun _ => O (pre ++ [x])) (fun _ => True) (fun _ => 0) 1)] (chg y ++ rest) (Px pre x ++ Ps) (O1 pre x y))
    (done : ∀ D xs, C.hf.dj (Heap.one D (.deferred (some []))) → Sx xs → Go (after C D) k E Ps (OsI' ++ (O xs ++ rr))) : Go C (.code (.rangeFunc g #[t] assign body) :: k) E Ps Os := by
  obtain ⟨P, fn, N, ro, w0, hp0, hf0, Q, fin, pan, out⟩ := C
  cases hro
  intro a w hp ho hf hs hb'
  obtain ⟨hI, hr1, aI, ar1, dI, sI, sr1⟩ := Sep.takes hO1 hs.os
  obtain ⟨hO, hR, aO, aR, dO, sO, sR⟩ := Sep.takes hO2 sr1
  show (Code.rangeFunc g #[t] assign body).wpIn Fence.wide 0 P (den none P fin k) a w
  refine wpIn_rangeFunc fun fnid _ => ?_
  generalize hrec : ({ state := .ready, pending := none, fn := fnid, tmps := a.tmps, params := #[t], assign, body, defers := w.heap.size } : Loop) = rec
  have hY := rounds (Ps := Ps) (E := E) (Px := Px) (P := P) (n := N.n) (l := w.heap.size + 1) (t := t) (enc := enc) (assign := assign) (body := body) (tmps := a.tmps) (fn := fnid) (D := w.heap.size) O hf.size ht hf.at_ chg rest O1 J (ha _) (hb _)
  rw [hrec] at hY
  have hsp := hseq (w.heap.size + 1) _ hY
  obtain ⟨fd, q1, q2, q3⟩ := hsp.fn
  have hres : (resolve a.eval (rangeCall g (w.heap.size + 1)) 0).run P ((w.alloc (.deferred (some []))).alloc (.loop rec)) = .ok { target := .fn (.func gf) cap, args := first ++ #[.func (.yield (w.heap.size + 1)) #[] #[]] } ((w.alloc (.deferred (some []))).alloc (.loop rec)) := by
    have hg' : a.eval g = .func (.func gf) first cap := hf.ev hg
    show (Deferred.ofValue (a.eval g) (#[Operand.const (.func (.yield (w.heap.size + 1)) #[] #[])].map a.eval)).run P _ = _
    rw [hg']
    simp [Deferred.ofValue, Act.eval]
  have hinv : (invoke (.fn (.func gf) cap) (first ++ #[.func (.yield (w.heap.size + 1)) #[] #[]])).run P ((w.alloc (.deferred (some []))).alloc (.loop rec)) = .ok (.enter gf (first ++ #[.func (.yield (w.heap.size + 1)) #[] #[]] ++ cap)) ((w.alloc (.deferred (some []))).alloc (.loop rec)) := by
    simp only [invoke, callFunc, program, bind, Sem.bind, Sem.run, q1, q2, q3]
    simp only [Bool.false_eq_true, if_false]
    rfl
  refine ⟨_, _, _, _, _, gf, _, _, by have := run_enterLoop_outer (P := P) (w := w) fnid a.tmps #[t] assign body; rw [hrec] at this; exact this, hres, fun _ _ => trivial, hinv, fun h => by simp [Fence.wide] at h, ?_⟩
  have hwsz : ((w.alloc (.deferred (some []))).alloc (.loop rec)).heap = (w.heap.push (.deferred (some []))).push (.loop rec) := rfl
  have fresh : ∀ h : Heap, h.le (hpOf w) → ∀ b, w.heap.size ≤ b → h b = none := fun h hl b hb => by
    cases e : h b with
    | none => rfl
    | some u => have := hl _ _ e; simp [hpOf] at this; have := (Array.getElem?_eq_some_iff.1 this).1; omega
  have grow : (hpOf w).le (hpOf ((w.alloc (.deferred (some []))).alloc (.loop rec))) := fun b u e => by
    have hlt : b < w.heap.size := (Array.getElem?_eq_some_iff.1 e).1
    simp only [hpOf, hwsz] at e ⊢
    rw [Array.getElem?_push_lt (by simp; omega)]
    simp only [Option.some.injEq]
    rw [Array.getElem_push_lt hlt]
    exact (Array.getElem?_eq_some_iff.1 e).2
  have hD : ((w.alloc (.deferred (some []))).alloc (.loop rec)).heap[w.heap.size]? = some (.deferred (some [])) := by
    rw [hwsz, Array.getElem?_push, Array.getElem?_push]; simp
  have hL : ((w.alloc (.deferred (some []))).alloc (.loop rec)).heap[w.heap.size + 1]? = some (.loop rec) := by
    rw [hwsz, Array.getElem?_push, if_pos (by simp)]
  have oneD : (Heap.one w.heap.size (.deferred (some []))).le (hpOf ((w.alloc (.deferred (some []))).alloc (.loop rec))) := Heap.one_le hD
  have oneL : (Heap.one (w.heap.size + 1) (.loop rec)).le (hpOf ((w.alloc (.deferred (some []))).alloc (.loop rec))) := Heap.one_le hL
  have djD : ∀ h : Heap, h.le (hpOf w) → (Heap.one w.heap.size (.deferred (some []))).dj h := fun h hl => Heap.one_dj (fresh h hl _ (Nat.le_refl _))
  have djL : ∀ h : Heap, h.le (hpOf w) → ∀ o', (Heap.one (w.heap.size + 1) o').dj h := fun h hl o' => Heap.one_dj (fresh h hl _ (by omega))
  have djDL : ∀ o', (Heap.one w.heap.size (.deferred (some []))).dj (Heap.one (w.heap.size + 1) o') := fun o' => Heap.one_dj (by simp [Heap.one])
  have hr0 : Rest w ((w.alloc (.deferred (some []))).alloc (.loop rec)) := ⟨rfl, rfl, rfl, Nat.le_refl _, by rw [hwsz]; simp; omega⟩
  have lI : hI.le (hpOf w) := aI.tr hs.ino
  have lr1 : hr1.le (hpOf w) := ar1.tr hs.ino
  have lO : hO.le (hpOf w) := aO.tr lr1
  have lR : hR.le (hpOf w) := aR.tr lr1
  -- the owned of the call: the record, the body's, the iterator's
  have dLO : (Heap.one (w.heap.size + 1) (.loop rec)).dj hO := djL _ lO _
  have dIO : hI.dj hO := Heap.dj_le dI (Heap.le_refl _) aO
  have dIR : hI.dj hR := Heap.dj_le dI (Heap.le_refl _) aR
  have dX : ((Heap.one (w.heap.size + 1) (.loop rec)).add hO).dj hI := Heap.add_dj (djL _ lI _) (Heap.dj_symm dIO)
  have dpO : hp.dj hO := Heap.dj_le hs.dj (Heap.le_refl _) (aO.tr ar1)
  have dpI : hp.dj hI := Heap.dj_le hs.dj (Heap.le_refl _) aI
  have dpR : hp.dj hR := Heap.dj_le hs.dj (Heap.le_refl _) (aR.tr ar1)
  have satI : Sat ((w.alloc (.deferred (some []))).alloc (.loop rec)) hp (((Heap.one (w.heap.size + 1) (.loop rec)).add hO).add hI) PsI (loopA Ps (w.heap.size + 1) rec (O []) :: OsI) :=
    ⟨hs.inp.tr grow, Heap.add_le (Heap.add_le oneL (lO.tr grow)) (lI.tr grow), Heap.dj_symm (Heap.add_dj (Heap.add_dj (djL _ hs.inp _) (Heap.dj_symm dpO)) (Heap.dj_symm dpI)), (hs.ents hP.ents).ps,
      (Heap.one (w.heap.size + 1) (.loop rec)).add hO, hI, Heap.le_add_left _ _, Heap.le_add_right dX, dX, ⟨hs.ps, hO, Heap.le_add_right dLO, Heap.le_add_left _ _, dLO, sO⟩, sI⟩
  have fI : hf0.dj hI := Heap.dj_le hb'.djo (Heap.le_refl _) aI
  have fO : hf0.dj hO := Heap.dj_le hb'.djo (Heap.le_refl _) (aO.tr ar1)
  have fR : hf0.dj hR := Heap.dj_le hb'.djo (Heap.le_refl _) (aR.tr ar1)
  have hfw : hf0.le (hpOf w) := hb'.hf
  -- the frame of the call
  have dFD : (hf0.add hR).dj (Heap.one w.heap.size (.deferred (some []))) := Heap.dj_symm (Heap.dj_symm (Heap.add_dj (Heap.dj_symm (djD _ hfw)) (Heap.dj_symm (djD _ lR))))
  have frame : ((hf0.add hR).add (Heap.one w.heap.size (.deferred (some [])))).le (hpOf ((w.alloc (.deferred (some []))).alloc (.loop rec))) := Heap.add_le (Heap.add_le (hfw.tr grow) (lR.tr grow)) oneD
  have fdp : ((hf0.add hR).add (Heap.one w.heap.size (.deferred (some [])))).dj hp := Heap.add_dj (Heap.add_dj hb'.djp (Heap.dj_symm dpR)) (djD _ hs.inp)
  have fdo : ((hf0.add hR).add (Heap.one w.heap.size (.deferred (some [])))).dj (((Heap.one (w.heap.size + 1) (.loop rec)).add hO).add hI) :=
    Heap.dj_symm (Heap.add_dj (Heap.add_dj (Heap.dj_symm (Heap.add_dj (Heap.add_dj (Heap.dj_symm (djL _ hfw _)) (Heap.dj_symm (djL _ lR _))) (djDL _))) (Heap.dj_symm (Heap.add_dj (Heap.add_dj fO (Heap.dj_symm dO)) (djD _ lO)))) (Heap.dj_symm (Heap.add_dj (Heap.add_dj fI (Heap.dj_symm dIR)) (djD _ lI))))
  refine (callsIn_wide.2 (hsp.calls _ hp _ _ satI frame fdp fdo)).mono ?_
  rintro e w3 ⟨v, hp3, ho3, Ps3, Os3, rfl, ⟨xs, hxs, rfl, rfl⟩, hs3, hle3, hfl3, e1, e2, hr3⟩
  obtain ⟨gA, gI, mA, mI, dAI, ⟨hps3, gO, mO, mL, dLO3, sO3⟩, sI3⟩ := hs3.os
  have mLo : (Heap.one (w.heap.size + 1) (.loop rec)).le ho3 := mL.tr mA
  have hl3 : w3.heap[w.heap.size + 1]? = some (.loop rec) := hs3.ino _ _ (mLo _ _ (one_at _ _))
  have hend := run_endLoop (P := P) hl3 (by rw [← hrec]; simp)
  refine ⟨_, _, hend, ?_⟩
  rw [show rec.pending = none from by rw [← hrec]]
  have lR3 : hR.le ((hf0.add hR).add (Heap.one w.heap.size (.deferred (some [])))) := (Heap.le_add_right fR).tr (Heap.le_add_left _ _)
  have lF3 : (hf0.add (Heap.one w.heap.size (.deferred (some [])))).le ((hf0.add hR).add (Heap.one w.heap.size (.deferred (some [])))) := Heap.add_le ((Heap.le_add_left _ _).tr (Heap.le_add_left _ _)) (Heap.le_add_right dFD)
  have dL3 : ∀ h : Heap, h.dj ho3 → h (w.heap.size + 1) = none := fun h d => by
    rcases d (w.heap.size + 1) with q | q
    · exact q
    · rw [mLo _ _ (one_at _ _)] at q; cases q
  have oA : gO.le ho3 := mO.tr mA
  have dOI : gI.dj gO := Heap.dj_symm (Heap.dj_le dAI mO (Heap.le_refl _))
  have dRx : hR.dj ho3 := Heap.dj_le e2 lR3 (Heap.le_refl _)
  have dOR : gO.dj hR := Heap.dj_symm (Heap.dj_le dRx (Heap.le_refl _) oA)
  have dIR3 : gI.dj hR := Heap.dj_symm (Heap.dj_le dRx (Heap.le_refl _) mI)
  have dI3 : gI.dj (gO.add hR) := Heap.dj_symm (Heap.add_dj (Heap.dj_symm dOI) (Heap.dj_symm dIR3))
  have nO : gO (w.heap.size + 1) = none := dj_at dLO3 (one_at _ _)
  have nI : gI (w.heap.size + 1) = none := by
    rcases dAI (w.heap.size + 1) with q | q
    · rw [mL _ _ (one_at _ _)] at q; cases q
    · exact q
  refine done w.heap.size xs (Heap.dj_symm (djD _ hfw)) hxs { a with defers := { target := .collected w.heap.size, args := #[] } :: a.defers } (w3.putObj (w.heap.size + 1) _) hp3 (gI.add (gO.add hR)) ⟨hf.size, by show _ :: a.defers = _ :: N.ds; rw [hf.dfs], hf.at_⟩ ?_ ?_
  · refine ⟨put_le hs3.inp (dL3 _ hs3.dj), Heap.add_le (put_le (mI.tr hs3.ino) nI) (Heap.add_le (put_le (oA.tr hs3.ino) nO) (put_le (lR3.tr hfl3) (dL3 _ dRx))), ?_, hps3, ?_⟩
    · exact Heap.dj_symm (Heap.add_dj (Heap.dj_symm (Heap.dj_le hs3.dj (Heap.le_refl _) mI)) (Heap.add_dj (Heap.dj_symm (Heap.dj_le hs3.dj (Heap.le_refl _) oA)) (Heap.dj_le e1 lR3 (Heap.le_refl _))))
    · exact Sep.app (Heap.le_add_left _ _) (Heap.le_add_right dI3) dI3 sI3 (Sep.app (Heap.le_add_left _ _) (Heap.le_add_right dOR) dOR sO3 (Sep.up hle3 sR))
  · have dF1 : (hf0.add (Heap.one w.heap.size (.deferred (some [])))).dj ho3 := Heap.dj_le e2 lF3 (Heap.le_refl _)
    refine ⟨hb'.hp0.tr hle3, put_le (lF3.tr hfl3) (dL3 _ dF1), Heap.dj_le e1 lF3 (Heap.le_refl _), ?_, ((hb'.rest.trans hr0).trans hr3).trans put_rest⟩
    refine Heap.dj_symm (Heap.add_dj (Heap.dj_symm (Heap.dj_le dF1 (Heap.le_refl _) mI)) (Heap.add_dj (Heap.dj_symm (Heap.dj_le dF1 (Heap.le_refl _) oA)) ?_))
    exact Heap.dj_symm (Heap.add_dj fR (djD _ lR))
/-- The return, the loop's mark behind it. -/
theorem go_endM {D : Nat} {hf0 : Heap} {fin : Ctx} (hC : C = after fin D) (h0 : AtEnd fin) {v : Value} (Ps' : List PA) (Os' : List OA) {r : List OA} (hv : ∀ (a : Act) (w : World) (hp ho : Heap), Fits C.N E a → Sat w hp ho Ps Os → (results C.fn a.tmps).run C.P w = .ok v w)
    (q : C.Q v Ps' Os') (hP : Subs Ps Ps') (hO : Takes Os Os' r) {e : Exit} (he : e = .ret ∨ e = .normal) {a : Act} {w : World} {hp ho : Heap} (hf : Fits C.N E a) (hs : Sat w hp ho Ps Os) (hb : Base C w hp ho) (hd : fin.hf.dj (Heap.one D (.deferred (some [])))) :
    C.fin e a w := by
  subst hC
  have ofF : fin.hf.le (fin.hf.add (Heap.one D (.deferred (some [])))) := Heap.le_add_left _ _
  have ofD : (Heap.one D (.deferred (some []))).le (fin.hf.add (Heap.one D (.deferred (some [])))) := Heap.le_add_right hd
  have hDw : w.heap[D]? = some (.deferred (some [])) := hb.hf _ _ (ofD _ _ (one_at _ _))
  have nD : ∀ h : Heap, (fin.hf.add (Heap.one D (.deferred (some [])))).dj h → h D = none := fun h d => dj_at (Heap.dj_le d ofD (Heap.le_refl _)) (one_at _ _)
  have sat2 : Sat (w.putObj D (.deferred none)) hp ho Ps Os := ⟨put_le hs.inp (nD _ hb.djp), put_le hs.ino (nD _ hb.djo), hs.dj, hs.ps, hs.os⟩
  have h : ∃ v, (results fin.fn a.tmps).run fin.P (w.putObj D (.deferred none)) = .ok v (w.putObj D (.deferred none)) ∧ endR fin.w0 fin.hp0 fin.hf fin.Q (.returned v) (w.putObj D (.deferred none)) := by
    obtain ⟨h1, h2, a1, b, c1, d, e⟩ := Sep.takes hO sat2.os
    exact ⟨v, hv a _ hp ho hf sat2, v, hp, ho, Ps', Os', rfl, q, ⟨sat2.inp, sat2.ino, sat2.dj, (sat2.ents hP.ents).ps, Sep.mono a1 d⟩, hb.hp0, put_le (ofF.tr hb.hf) (dj_at (Heap.dj_symm hd) (one_at _ _)), Heap.dj_le hb.djp ofF (Heap.le_refl _), Heap.dj_le hb.djo ofF (Heap.le_refl _), hb.rest.trans put_rest⟩
  have hds : a.defers = [{ target := .collected D, args := #[] }] := by rw [hf.dfs]; show _ :: fin.N.ds = _; rw [h0.2]
  show fin.fin e a w
  rw [h0.1]
  rcases he with rfl | rfl <;> (show LeavesInM _ _ _ _ _ _ _ _ _; rw [hds]; exact ⟨by simp, .inl ⟨D, _, rfl, run_takeDeferred hDw, h⟩⟩)
theorem go_endR {D : Nat} {C0 : Ctx} (h0 : AtEnd C0) (hd : C0.hf.dj (Heap.one D (.deferred (some [])))) {v : Value} (Ps' : List PA) (Os' : List OA) {r : List OA} (hv : ∀ (a : Act) (w : World) (hp ho : Heap), Fits (after C0 D).N E a → Sat w hp ho Ps Os → (results (after C0 D).fn a.tmps).run (after C0 D).P w = .ok v w)
    (q : C0.Q v Ps' Os') (hP : Subs Ps Ps') (hO : Takes Os Os' r) : Go (after C0 D) [] E Ps Os := fun a w hp ho hf hs hb =>
  go_endM (hf0 := Heap.nil) (fin := C0) rfl h0 Ps' Os' hv q hP hO (.inr rfl) hf hs hb hd
theorem go_retR {D : Nat} {C0 : Ctx} (h0 : AtEnd C0) (hd : C0.hf.dj (Heap.one D (.deferred (some [])))) {v : Value} (Ps' : List PA) (Os' : List OA) {r : List OA} (hv : ∀ (a : Act) (w : World) (hp ho : Heap), Fits (after C0 D).N E a → Sat w hp ho Ps Os → (results (after C0 D).fn a.tmps).run (after C0 D).P w = .ok v w)
    (q : C0.Q v Ps' Os') (hP : Subs Ps Ps') (hO : Takes Os Os' r) : Go (after C0 D) (.code .ret :: k) E Ps Os := fun a w hp ho hf hs hb =>
  wpIn_ret (by show den C0.ro C0.P C0.fin k .ret a w; rw [den_ret]; exact go_endM (hf0 := Heap.nil) (fin := C0) rfl h0 Ps' Os' hv q hP hO (.inl rfl) hf hs hb hd)
end
end Go.Proofs.Ytdkfpgdfjnaciaa.SL
