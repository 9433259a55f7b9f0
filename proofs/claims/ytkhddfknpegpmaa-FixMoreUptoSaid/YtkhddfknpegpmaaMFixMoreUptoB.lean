/- Engine, data and contracts: parts of the proof of FixMoreUpto, put together (SA D5 Rel Relb SB SC Relins Relput D6 Relp SD D7 Matchs Matcht Matchr Relq Refrel Refrelb Relr D8 D9 DA SF SG). -/
import Derived.Test.YtkhddfknpegpmaaMFixMoreUptoA
import Derived.RangeFuncRecord
import Derived.Lib.Overlaps
import Derived.MapKept
/- Ranging over a function: the loop's rounds, the calls of its yield. -/
set_option linter.unusedVariables false
set_option linter.unusedSimpArgs false
namespace Go.Proofs.Ytkhddfknpegpmaa.SL

theorem put_le {w : World} {b : Nat} {o' : Obj} {h : Heap} (hl : h.le (hpOf w)) (hn : h b = none) : h.le (hpOf (w.putObj b o')) := fun x u e => by
  have hx : x ≠ b := fun q => by subst q; rw [hn] at e; cases e
  have := hl _ _ e
  simp only [hpOf, World.putObj] at this ⊢
  rw [Array.getElem?_setIfInBounds_ne (Ne.symm hx)]
  exact this
theorem put_one {w : World} {b : Nat} {o o' : Obj} (hb : w.heap[b]? = some o) : (Heap.one b o').le (hpOf (w.putObj b o')) := Heap.one_le (by
  have hlt : b < w.heap.size := (Array.getElem?_eq_some_iff.1 hb).1
  simp [hpOf, World.putObj, hlt])
theorem put_rest {w : World} {b : Nat} {o' : Obj} : Rest w (w.putObj b o') := ⟨rfl, rfl, rfl, Nat.le_refl _, by simp [World.putObj]⟩
theorem dj_one {h : Heap} {b : Nat} {o o' : Obj} (d : (Heap.one b o).dj h) : (Heap.one b o').dj h := fun x => by
  rcases d x with q | q
  · left
    unfold Heap.one at q ⊢
    split at q
    · cases q
    · rename_i hx; rw [if_neg hx]
  · exact .inr q
theorem dj_at {h h' : Heap} {b : Nat} {o : Obj} (d : h.dj h') (e : h b = some o) : h' b = none := by
  rcases d b with q | q
  · rw [e] at q; cases q
  · exact q
theorem one_at (b : Nat) (o : Obj) : Heap.one b o b = some o := by simp [Heap.one]

/-- A loop's yield: at each value that it is called with a round is gone through, and it says 'more'. -/
structure Yld (P : Program) (l : Nat) {α : Type} (enc : α → Value) (Px : List α → α → List PA) (R : List α → OA) : Prop where
  go : ∀ (pre : List α) (x : α) (w : World) (hp ho hf : Heap), Sat w hp ho (Px pre x) [R pre] → hf.le (hpOf w) → hf.dj hp → hf.dj ho →
    ∃ fn tmps assign body, (Instr.yield l #[enc x]).run P w = .ok (.round l fn tmps assign body) w ∧
      RoundIn Fence.wide 0 P l fn tmps assign body w (fun e w' => ∃ hp' ho', e = .returned (.bool true) ∧ Sat w' hp' ho' [] [R (pre ++ [x])] ∧ hp.le hp' ∧ hf.le (hpOf w') ∧ hf.dj hp' ∧ hf.dj ho' ∧ Rest w w')
section
variable {C : Ctx} {k : List It} {E : Env} {Ps : List PA} {Os : List OA}
variable {o : Oper} {ops : Array Oper} {S : World → Prop} {r : Pl} {f : Bool}
theorem go_skipY (hw : wants ops E o = some false) (hd : okDst C.N o.dst = true) (g : Go C (.ops ops S r :: k) (setE o.dst undef E) Ps Os) : Go C (.ops ops S (.yld o r) :: k) E Ps Os := fun a w hp ho hf hs hb => by
  show rwp _ _ _ _ _ _ _
  rw [rwp, if_neg (by rw [wants_eq hf hw]; simp)]
  exact g _ w hp ho (hf.put hd undef) hs hb
theorem go_yield {α : Type} {enc : α → Value} {Px : List α → α → List PA} {R : List α → OA} {l : Nat} (hy : Yld C.P l enc Px R) (pre : List α) (x : α) {fx ax : Operand} {tys : Array TypeId} {rr : List OA} (ho : o.op = .call ⟨.value fx, #[ax], tys⟩) (hw : wants ops E o = some true)
    (hfx : ev E fx = some (.func (.yield l) #[] #[])) (hax : ev E ax = some (enc x)) (hd : okDst C.N o.dst = true) (hP : Subs Ps (Px pre x)) (hO : Takes Os [R pre] rr)
    (g : Go C (.ops ops S r :: k) (setE o.dst (.bool true) E) Ps (R (pre ++ [x]) :: rr)) : Go C (.ops ops S (.yld o r) :: k) E Ps Os := fun a w hp ho' hf hs hb => by
  show rwp _ _ _ _ _ _ _
  rw [rwp, if_pos (wants_eq hf hw)]
  obtain ⟨h1, h2, a1, b1, c1, d1, e1⟩ := Sep.takes hO hs.os
  obtain ⟨fn, tmps, assign, body, hrun, hround⟩ := hy.go pre x w hp h1 (C.hf.add h2) ⟨hs.inp, a1.tr hs.ino, Heap.dj_le hs.dj (Heap.le_refl _) a1, (hs.ents hP.ents).ps, d1⟩ (Heap.add_le hb.hf (b1.tr hs.ino))
    (Heap.add_dj hb.djp (Heap.dj_symm (Heap.dj_le hs.dj (Heap.le_refl _) b1))) (Heap.add_dj (Heap.dj_le hb.djo (Heap.le_refl _) a1) (Heap.dj_symm c1))
  have hex : (execOp a.eval o).run C.P w = .ok (.round l fn tmps assign body) w := by
    simp [execOp, ho, resolve, hf.ev hfx, hf.ev hax, Deferred.ofValue, invoke, hrun]
  refine ⟨fun _ _ => trivial, ?_⟩
  rw [show Fence.wide.round = none from rfl, Oper.semAt_none, hex, Oper.uponIn_round]
  refine ⟨fun h => by simp [Fence.wide] at h, hround.mono ?_⟩
  rintro e w' ⟨hp', ho2, rfl, hs', hle, hfl, djp, djo, hrest⟩
  have dfo : C.hf.dj h2 := Heap.dj_le hb.djo (Heap.le_refl _) b1
  have l2 : h2.le (C.hf.add h2) := Heap.le_add_right dfo
  have dA : ho2.dj h2 := Heap.dj_symm (Heap.dj_le djo l2 (Heap.le_refl _))
  have dB : hp'.dj h2 := Heap.dj_symm (Heap.dj_le djp l2 (Heap.le_refl _))
  have sat : Sat w' hp' (ho2.add h2) Ps ([R (pre ++ [x])] ++ rr) := ⟨hs'.inp, Heap.add_le hs'.ino (l2.tr hfl), Heap.dj_symm (Heap.add_dj (Heap.dj_symm hs'.dj) (Heap.dj_symm dB)),
    fun p hp0 => p.up hle (hs.ps p hp0), Sep.app (Heap.le_add_left _ _) (Heap.le_add_right dA) dA hs'.os (Sep.up hle e1)⟩
  have base : Base C w' hp' (ho2.add h2) := ⟨hb.hp0.tr hle, (Heap.le_add_left _ _).tr hfl, Heap.dj_le djp (Heap.le_add_left _ _) (Heap.le_refl _),
    Heap.dj_symm (Heap.add_dj (Heap.dj_symm (Heap.dj_le djo (Heap.le_add_left _ _) (Heap.le_refl _))) (Heap.dj_symm dfo)), hb.rest.trans hrest⟩
  exact g _ w' hp' _ (hf.put hd (.bool true)) sat base
end

/-! ### the statement -/
/-- A round's frame. -/
def rc (P : Program) (n l : Nat) (w0 : World) (hp0 hf : Heap) : Ctx := ⟨P, default, ⟨n, []⟩, some l, w0, hp0, hf, fun _ _ _ => False, fun _ _ _ => False, fun _ _ _ h => h, fun _ _ h => h⟩
/-- Between two rounds: the loop's record, and what the body keeps. -/
def loopA (Ps : List PA) (l : Nat) (rec : Loop) (Os : List OA) : OA :=
  ⟨fun hp ho => (∀ p, p ∈ Ps → p.p hp) ∧ ∃ h2, h2.le ho ∧ (Heap.one l (.loop rec)).le ho ∧ (Heap.one l (.loop rec)).dj h2 ∧ Sep hp Os h2,
    fun hl ⟨a, h2, b, c, d, e⟩ => ⟨fun p hp => p.up hl (a p hp), h2, b, c, d, Sep.up hl e⟩⟩
def after (C : Ctx) (D : Nat) : Ctx := { C with N := ⟨C.N.n, { target := .collected D, args := #[] } :: C.N.ds⟩, hf := C.hf.add (Heap.one D (.deferred (some []))) }
section
variable {C : Ctx} {k : List It} {E : Env} {Ps : List PA} {Os : List OA}
theorem rounds {P : Program} {n l t : Nat} {α : Type} {enc : α → Value} {Px : List α → α → List PA} {assign body : Code} {tmps : Array Value} {fn : FuncId} {D : Nat} (O : List α → List OA) (hN : tmps.size = n) (ht : Nat.blt t n = true) (hE : ∀ d v, look E d = some v → tmps[d]? = some v)
    {X : Type} (chg : X → Env) (rest : Env) (O1 : List α → α → X → List OA) (J : List α → α → X → Prop)
    (ha : ∀ pre x w0 hp0 hf0, Go (rc P n l w0 hp0 hf0) [.code assign, .back (Bk (rc P n l w0 hp0 hf0) chg rest (fun _ => Px pre x ++ Ps) (O1 pre x) (J pre x) (fun _ => 0) 1)] ((t, enc x) :: E) (Px pre x ++ Ps) (O pre))
    (hb : ∀ pre x y, J pre x y → ∀ w0 hp0 hf0, Go (rc P n l w0 hp0 hf0) [.code body, .back (Bk (rc P n l w0 hp0 hf0) (fun _ : Unit => []) [] (fun _ => Ps) (fun _ => O (pre ++ [x])) (fun _ => True) (fun _ => 0) 1)] (chg y ++ rest) (Px pre x ++ Ps) (O1 pre x y)) :
    Yld P l enc Px (fun pre => loopA Ps l { state := .ready, pending := none, fn, tmps, params := #[t], assign, body, defers := D } (O pre)) := ⟨fun pre x w hp ho hf hs hfw d1 d2 => by
  generalize hrec : ({ state := .ready, pending := none, fn, tmps, params := #[t], assign, body, defers := D } : Loop) = rec at *
  obtain ⟨g1, _, la, _, _, ⟨hps, h2, lb, lr, dr, sO⟩, _⟩ := hs.os
  have lro : (Heap.one l (.loop rec)).le ho := lr.tr la
  have hl : w.heap[l]? = some (.loop rec) := hs.ino _ _ (lro _ _ (one_at _ _))
  have hyr := run_yield (P := P) (args := #[enc x]) hl (by rw [← hrec]; rfl)
  refine ⟨_, _, _, _, hyr, ?_⟩
  have dfr : hf.dj (Heap.one l (.loop rec)) := Heap.dj_le d2 (Heap.le_refl _) lro
  have dpr : hp.dj (Heap.one l (.loop rec)) := Heap.dj_le hs.dj (Heap.le_refl _) lro
  have lO : h2.le ho := lb.tr la
  have fl : hf l = none := by
    rcases dfr l with q | q
    · exact q
    · rw [one_at] at q; cases q
  refine roundIn_of_wpIn (F := Fence.wide) (n := 0) trivial ?_
  have hfit : Fits ⟨n, []⟩ ((t, enc x) :: E) { tmps := (rec.params.zip #[enc x]).foldl (fun tmps (t, a) => tmps.setIfInBounds t a) rec.tmps, defers := [] } := by
    have hz : (rec.params.zip #[enc x]).foldl (fun tmps (t, a) => tmps.setIfInBounds t a) rec.tmps = tmps.setIfInBounds t (enc x) := by rw [← hrec]; simp
    rw [hz]
    refine ⟨by simp [hN], rfl, fun d v e => ?_⟩
    simp only [look] at e
    have htl : t < tmps.size := by rw [hN]; exact Nat.le_of_ble_eq_true ht
    show (tmps.setIfInBounds t (enc x))[d]? = some v
    cases hbq : Nat.beq t d with
    | true =>
      rw [hbq] at e
      simp at e
      subst e
      rw [← Nat.eq_of_beq_eq_true hbq]
      simp [htl]
    | false =>
      rw [hbq] at e
      have hne : t ≠ d := fun q => by subst q; rw [Nat.beq_refl] at hbq; cases hbq
      rw [Array.getElem?_setIfInBounds_ne hne]
      exact hE d v e
  have hpx : ∀ p, p ∈ Px pre x ++ Ps → p.p hp := fun p hm => by
    rcases List.mem_append.1 hm with q | q
    · exact hs.ps p q
    · exact hps p q
  have sat1 : Sat w hp h2 (Px pre x ++ Ps) (O pre) := ⟨hs.inp, lO.tr hs.ino, Heap.dj_le hs.dj (Heap.le_refl _) lO, hpx, sO⟩
  have hfr : (hf.add (Heap.one l (.loop rec))).le (hpOf w) := Heap.add_le hfw (lro.tr hs.ino)
  have base1 : Base (rc P n l w hp (hf.add (Heap.one l (.loop rec)))) w hp h2 := ⟨Heap.le_refl _, hfr, Heap.add_dj d1 (Heap.dj_symm dpr), Heap.add_dj (Heap.dj_le d2 (Heap.le_refl _) lO) dr, .refl _⟩
  have step1 := ha pre x w hp (hf.add (Heap.one l (.loop rec))) _ w hp h2 hfit sat1 base1
  rw [show rec.assign = assign from by rw [← hrec], show rec.body = body from by rw [← hrec]]
  refine wpIn_mono (show assign.wpIn (Fence.wide.inRound l) 0 P _ _ w from step1) fun e a1 w1 q => ?_
  cases e with
  | normal =>
    obtain ⟨y, hp1, ho1, f1, s1, b1, j1, _⟩ := q
    have hl1 : w1.heap[l]? = some (.loop rec) := b1.hf _ _ (Heap.le_add_right dfr _ _ (one_at _ _))
    refine ⟨_, run_beginRound hl1 (by rw [← hrec]), ?_⟩
    have r1 : (Heap.one l (.loop rec)).dj hp1 := Heap.dj_le b1.djp (Heap.le_add_right dfr) (Heap.le_refl _)
    have r2 : (Heap.one l (.loop rec)).dj ho1 := Heap.dj_le b1.djo (Heap.le_add_right dfr) (Heap.le_refl _)
    have r3 : hf.dj hp1 := Heap.dj_le b1.djp (Heap.le_add_left _ _) (Heap.le_refl _)
    have r4 : hf.dj ho1 := Heap.dj_le b1.djo (Heap.le_add_left _ _) (Heap.le_refl _)
    have dfb : ∀ o', hf.dj (Heap.one l o') := fun o' => Heap.dj_symm (dj_one (Heap.dj_symm dfr))
    have step2 := hb pre x y j1 (w1.putObj l (.loop { rec with state := .busy })) hp1 (hf.add (Heap.one l (.loop { rec with state := .busy }))) a1 _ hp1 ho1 f1
      ⟨put_le s1.inp (dj_at r1 (one_at _ _)), put_le s1.ino (dj_at r2 (one_at _ _)), s1.dj, s1.ps, s1.os⟩
      ⟨Heap.le_refl _, Heap.add_le (put_le ((Heap.le_add_left _ _).tr b1.hf) fl) (put_one hl1), Heap.add_dj r3 (dj_one r1), Heap.add_dj r4 (dj_one r2), .refl _⟩
    refine wpIn_mono (show body.wpIn (Fence.wide.inRound l) 0 P _ _ _ from step2) fun e2 a2 w3 q2 => ?_
    cases e2 with
    | normal =>
      obtain ⟨_, hp3, ho3, f3, s3, b3, _, _⟩ := q2
      have hl3 : w3.heap[l]? = some (.loop { rec with state := .busy }) := b3.hf _ _ (Heap.le_add_right (dfb _) _ _ (one_at _ _))
      have he := run_endRound (P := P) none hl3
      have hrr : ({ { rec with state := LoopState.busy } with state := if (none : Option Code).isNone then LoopState.ready else LoopState.done, pending := none } : Loop) = rec := by rw [← hrec]; rfl
      rw [hrr] at he
      refine ⟨_, _, he, ?_⟩
      have t1 : (Heap.one l (.loop { rec with state := .busy })).dj hp3 := Heap.dj_le b3.djp (Heap.le_add_right (dfb _)) (Heap.le_refl _)
      have t2 : (Heap.one l (.loop { rec with state := .busy })).dj ho3 := Heap.dj_le b3.djo (Heap.le_add_right (dfb _)) (Heap.le_refl _)
      have t3 : hf.dj hp3 := Heap.dj_le b3.djp (Heap.le_add_left _ _) (Heap.le_refl _)
      have t4 : hf.dj ho3 := Heap.dj_le b3.djo (Heap.le_add_left _ _) (Heap.le_refl _)
      have dN : (Heap.one l (.loop rec)).dj ho3 := dj_one t2
      refine ⟨hp3, (Heap.one l (.loop rec)).add ho3, rfl, ⟨put_le s3.inp (dj_at t1 (one_at _ _)), Heap.add_le (put_one hl3) (put_le s3.ino (dj_at t2 (one_at _ _))), Heap.dj_symm (Heap.add_dj (dj_one t1) (Heap.dj_symm s3.dj)), (fun _ h => nomatch h),
          sep_one ⟨s3.ps, ho3, Heap.le_add_right dN, Heap.le_add_left _ _, dN, s3.os⟩⟩, b1.hp0.tr b3.hp0, put_le ((Heap.le_add_left _ _).tr b3.hf) fl, t3, Heap.dj_symm (Heap.add_dj (Heap.dj_symm (dfb _)) (Heap.dj_symm t4)),
          (b1.rest.trans put_rest).trans (b3.rest.trans put_rest)⟩
    | exit i => exact q2.elim
    | goto i => exact q2.elim
    | ret => exact q2.elim
    | panic c => exact q2.elim
    | outgrown => exact q2.elim
  | exit i => exact q.elim
  | goto i => exact q.elim
  | ret => exact q.elim
  | panic c => exact q.elim
  | outgrown => exact q.elim⟩
theorem go_range {α : Type} {enc : α → Value} {Px : List α → α → List PA} {g : Operand} {t : Nat} {assign body : Code} {gf : FuncId} {first cap : Array Value} (hro : C.ro = none) (hg : ev E g = some (.func (.func gf) first cap)) (ht : Nat.blt t C.N.n = true)
    (O : List α → List OA) (OsI OsI' : List OA) {r1 rr : List OA} (hO1 : Takes Os OsI r1) (hO2 : Takes r1 (O []) rr) (PsI : List PA) (hP : Subs Ps PsI) (Sx : List α → Prop)
    (hseq : ∀ (l : Nat) (R : List α → OA), Yld C.P l enc Px R → Spec C.P gf (first ++ #[.func (.yield l) #[] #[]] ++ cap) PsI (R [] :: OsI) (fun v Ps' Os' => ∃ xs, Sx xs ∧ Ps' = [] ∧ Os' = R xs :: OsI'))
    {X : Type} (chg : X → Env) (rest : Env) (O1 : List α → α → X → List OA) (J : List α → α → X → Prop)
    (ha : ∀ l pre x w0 hp0 hf0, Go (rc C.P C.N.n l w0 hp0 hf0) [.code assign, .back (Bk (rc C.P C.N.n l w0 hp0 hf0) chg rest (fun _ => Px pre x ++ Ps) (O1 pre x) (J pre x) (fun _ => 0) 1)] ((t, enc x) :: E) (Px pre x ++ Ps) (O pre))
    (hb : ∀ l pre x y, J pre x y → ∀ w0 hp0 hf0, Go (rc C.P C.N.n l w0 hp0 hf0) [.code body, .back (Bk (rc C.P C.N.n l w0 hp0 hf0) (fun _ : Unit => []) [] (fun _ => Ps) (fun _ => O (pre ++ [x])) (fun _ => True) (fun _ => 0) 1)] (chg y ++ rest) (Px pre x ++ Ps) (O1 pre x y))
    (done : ∀ D xs, C.hf.dj (Heap.one D (.deferred (some []))) → Sx xs → Go (after C D) k E Ps (OsI' ++ (O xs ++ rr))) : Go C (.code (.rangeFunc g #[t] assign body) :: k) E Ps Os := by
  obtain ⟨P, fn, N, ro, w0, hp0, hf0, Q, fin, pan, out⟩ := C
  cases hro
  intro a w hp ho hf hs hb'
  obtain ⟨hI, hr1, aI, ar1, dI, sI, sr1⟩ := Sep.takes hO1 hs.os
  obtain ⟨hO, hR, aO, aR, dO, sO, sR⟩ := Sep.takes hO2 sr1
  show (Code.rangeFunc g #[t] assign body).wpIn Fence.wide 0 P (den none P fin k) a w
  refine wpIn_rangeFunc fun fnid _ => ?_
  generalize hrec : ({ state := .ready, pending := none, fn := fnid, tmps := a.tmps, params := #[t], assign, body, defers := w.heap.size } : Loop) = rec
  have hY := rounds (Ps := Ps) (E := E) (Px := Px) (P := P) (n := N.n) (l := w.heap.size + 1) (t := t) (enc := enc) (assign := assign) (body := body) (tmps := a.tmps) (fn := fnid) (D := w.heap.size) O hf.size ht hf.at_ chg rest O1 J (ha _) (hb _)
  rw [hrec] at hY
  have hsp := hseq (w.heap.size + 1) _ hY
  obtain ⟨fd, q1, q2, q3⟩ := hsp.fn
  have hres : (resolve a.eval (rangeCall g (w.heap.size + 1)) 0).run P ((w.alloc (.deferred (some []))).alloc (.loop rec)) = .ok { target := .fn (.func gf) cap, args := first ++ #[.func (.yield (w.heap.size + 1)) #[] #[]] } ((w.alloc (.deferred (some []))).alloc (.loop rec)) := by
    have hg' : a.eval g = .func (.func gf) first cap := hf.ev hg
    show (Deferred.ofValue (a.eval g) (#[Operand.const (.func (.yield (w.heap.size + 1)) #[] #[])].map a.eval)).run P _ = _
    rw [hg']
    simp [Deferred.ofValue, Act.eval]
  have hinv : (invoke (.fn (.func gf) cap) (first ++ #[.func (.yield (w.heap.size + 1)) #[] #[]])).run P ((w.alloc (.deferred (some []))).alloc (.loop rec)) = .ok (.enter gf (first ++ #[.func (.yield (w.heap.size + 1)) #[] #[]] ++ cap)) ((w.alloc (.deferred (some []))).alloc (.loop rec)) := by
    simp only [invoke, callFunc, program, bind, Sem.bind, Sem.run, q1, q2, q3]
    simp only [Bool.false_eq_true, if_false]
    rfl
  refine ⟨_, _, _, _, _, gf, _, _, by have := run_enterLoop_outer (P := P) (w := w) fnid a.tmps #[t] assign body; rw [hrec] at this; exact this, hres, fun _ _ => trivial, hinv, fun h => by simp [Fence.wide] at h, ?_⟩
  have hwsz : ((w.alloc (.deferred (some []))).alloc (.loop rec)).heap = (w.heap.push (.deferred (some []))).push (.loop rec) := rfl
  have fresh : ∀ h : Heap, h.le (hpOf w) → ∀ b, w.heap.size ≤ b → h b = none := fun h hl b hb => by
    cases e : h b with
    | none => rfl
    | some u => have := hl _ _ e; simp [hpOf] at this; have := (Array.getElem?_eq_some_iff.1 this).1; omega
  have grow : (hpOf w).le (hpOf ((w.alloc (.deferred (some []))).alloc (.loop rec))) := fun b u e => by
    have hlt : b < w.heap.size := (Array.getElem?_eq_some_iff.1 e).1
    simp only [hpOf, hwsz] at e ⊢
    rw [Array.getElem?_push_lt (by simp; omega)]
    simp only [Option.some.injEq]
    rw [Array.getElem_push_lt hlt]
    exact (Array.getElem?_eq_some_iff.1 e).2
  have hD : ((w.alloc (.deferred (some []))).alloc (.loop rec)).heap[w.heap.size]? = some (.deferred (some [])) := by
    rw [hwsz, Array.getElem?_push, Array.getElem?_push]; simp
  have hL : ((w.alloc (.deferred (some []))).alloc (.loop rec)).heap[w.heap.size + 1]? = some (.loop rec) := by
    rw [hwsz, Array.getElem?_push, if_pos (by simp)]
  have oneD : (Heap.one w.heap.size (.deferred (some []))).le (hpOf ((w.alloc (.deferred (some []))).alloc (.loop rec))) := Heap.one_le hD
  have oneL : (Heap.one (w.heap.size + 1) (.loop rec)).le (hpOf ((w.alloc (.deferred (some []))).alloc (.loop rec))) := Heap.one_le hL
  have djD : ∀ h : Heap, h.le (hpOf w) → (Heap.one w.heap.size (.deferred (some []))).dj h := fun h hl => Heap.one_dj (fresh h hl _ (Nat.le_refl _))
  have djL : ∀ h : Heap, h.le (hpOf w) → ∀ o', (Heap.one (w.heap.size + 1) o').dj h := fun h hl o' => Heap.one_dj (fresh h hl _ (by omega))
  have djDL : ∀ o', (Heap.one w.heap.size (.deferred (some []))).dj (Heap.one (w.heap.size + 1) o') := fun o' => Heap.one_dj (by simp [Heap.one])
  have hr0 : Rest w ((w.alloc (.deferred (some []))).alloc (.loop rec)) := ⟨rfl, rfl, rfl, Nat.le_refl _, by rw [hwsz]; simp; omega⟩
  have lI : hI.le (hpOf w) := aI.tr hs.ino
  have lr1 : hr1.le (hpOf w) := ar1.tr hs.ino
  have lO : hO.le (hpOf w) := aO.tr lr1
  have lR : hR.le (hpOf w) := aR.tr lr1
  -- the owned of the call: the record, the body's, the iterator's
  have dLO : (Heap.one (w.heap.size + 1) (.loop rec)).dj hO := djL _ lO _
  have dIO : hI.dj hO := Heap.dj_le dI (Heap.le_refl _) aO
  have dIR : hI.dj hR := Heap.dj_le dI (Heap.le_refl _) aR
  have dX : ((Heap.one (w.heap.size + 1) (.loop rec)).add hO).dj hI := Heap.add_dj (djL _ lI _) (Heap.dj_symm dIO)
  have dpO : hp.dj hO := Heap.dj_le hs.dj (Heap.le_refl _) (aO.tr ar1)
  have dpI : hp.dj hI := Heap.dj_le hs.dj (Heap.le_refl _) aI
  have dpR : hp.dj hR := Heap.dj_le hs.dj (Heap.le_refl _) (aR.tr ar1)
  have satI : Sat ((w.alloc (.deferred (some []))).alloc (.loop rec)) hp (((Heap.one (w.heap.size + 1) (.loop rec)).add hO).add hI) PsI (loopA Ps (w.heap.size + 1) rec (O []) :: OsI) :=
    ⟨hs.inp.tr grow, Heap.add_le (Heap.add_le oneL (lO.tr grow)) (lI.tr grow), Heap.dj_symm (Heap.add_dj (Heap.add_dj (djL _ hs.inp _) (Heap.dj_symm dpO)) (Heap.dj_symm dpI)), (hs.ents hP.ents).ps,
      (Heap.one (w.heap.size + 1) (.loop rec)).add hO, hI, Heap.le_add_left _ _, Heap.le_add_right dX, dX, ⟨hs.ps, hO, Heap.le_add_right dLO, Heap.le_add_left _ _, dLO, sO⟩, sI⟩
  have fI : hf0.dj hI := Heap.dj_le hb'.djo (Heap.le_refl _) aI
  have fO : hf0.dj hO := Heap.dj_le hb'.djo (Heap.le_refl _) (aO.tr ar1)
  have fR : hf0.dj hR := Heap.dj_le hb'.djo (Heap.le_refl _) (aR.tr ar1)
  have hfw : hf0.le (hpOf w) := hb'.hf
  -- the frame of the call
  have dFD : (hf0.add hR).dj (Heap.one w.heap.size (.deferred (some []))) := Heap.dj_symm (Heap.dj_symm (Heap.add_dj (Heap.dj_symm (djD _ hfw)) (Heap.dj_symm (djD _ lR))))
  have frame : ((hf0.add hR).add (Heap.one w.heap.size (.deferred (some [])))).le (hpOf ((w.alloc (.deferred (some []))).alloc (.loop rec))) := Heap.add_le (Heap.add_le (hfw.tr grow) (lR.tr grow)) oneD
  have fdp : ((hf0.add hR).add (Heap.one w.heap.size (.deferred (some [])))).dj hp := Heap.add_dj (Heap.add_dj hb'.djp (Heap.dj_symm dpR)) (djD _ hs.inp)
  have fdo : ((hf0.add hR).add (Heap.one w.heap.size (.deferred (some [])))).dj (((Heap.one (w.heap.size + 1) (.loop rec)).add hO).add hI) :=
    Heap.dj_symm (Heap.add_dj (Heap.add_dj (Heap.dj_symm (Heap.add_dj (Heap.add_dj (Heap.dj_symm (djL _ hfw _)) (Heap.dj_symm (djL _ lR _))) (djDL _))) (Heap.dj_symm (Heap.add_dj (Heap.add_dj fO (Heap.dj_symm dO)) (djD _ lO)))) (Heap.dj_symm (Heap.add_dj (Heap.add_dj fI (Heap.dj_symm dIR)) (djD _ lI))))
  refine (callsIn_wide.2 (hsp.calls _ hp _ _ satI frame fdp fdo)).mono ?_
  rintro e w3 ⟨v, hp3, ho3, Ps3, Os3, rfl, ⟨xs, hxs, rfl, rfl⟩, hs3, hle3, hfl3, e1, e2, hr3⟩
  obtain ⟨gA, gI, mA, mI, dAI, ⟨hps3, gO, mO, mL, dLO3, sO3⟩, sI3⟩ := hs3.os
  have mLo : (Heap.one (w.heap.size + 1) (.loop rec)).le ho3 := mL.tr mA
  have hl3 : w3.heap[w.heap.size + 1]? = some (.loop rec) := hs3.ino _ _ (mLo _ _ (one_at _ _))
  have hend := run_endLoop (P := P) hl3 (by rw [← hrec]; simp)
  refine ⟨_, _, hend, ?_⟩
  rw [show rec.pending = none from by rw [← hrec]]
  have lR3 : hR.le ((hf0.add hR).add (Heap.one w.heap.size (.deferred (some [])))) := (Heap.le_add_right fR).tr (Heap.le_add_left _ _)
  have lF3 : (hf0.add (Heap.one w.heap.size (.deferred (some [])))).le ((hf0.add hR).add (Heap.one w.heap.size (.deferred (some [])))) := Heap.add_le ((Heap.le_add_left _ _).tr (Heap.le_add_left _ _)) (Heap.le_add_right dFD)
  have dL3 : ∀ h : Heap, h.dj ho3 → h (w.heap.size + 1) = none := fun h d => by
    rcases d (w.heap.size + 1) with q | q
    · exact q
    · rw [mLo _ _ (one_at _ _)] at q; cases q
  have oA : gO.le ho3 := mO.tr mA
  have dOI : gI.dj gO := Heap.dj_symm (Heap.dj_le dAI mO (Heap.le_refl _))
  have dRx : hR.dj ho3 := Heap.dj_le e2 lR3 (Heap.le_refl _)
  have dOR : gO.dj hR := Heap.dj_symm (Heap.dj_le dRx (Heap.le_refl _) oA)
  have dIR3 : gI.dj hR := Heap.dj_symm (Heap.dj_le dRx (Heap.le_refl _) mI)
  have dI3 : gI.dj (gO.add hR) := Heap.dj_symm (Heap.add_dj (Heap.dj_symm dOI) (Heap.dj_symm dIR3))
  have nO : gO (w.heap.size + 1) = none := dj_at dLO3 (one_at _ _)
  have nI : gI (w.heap.size + 1) = none := by
    rcases dAI (w.heap.size + 1) with q | q
    · rw [mL _ _ (one_at _ _)] at q; cases q
    · exact q
  refine done w.heap.size xs (Heap.dj_symm (djD _ hfw)) hxs { a with defers := { target := .collected w.heap.size, args := #[] } :: a.defers } (w3.putObj (w.heap.size + 1) _) hp3 (gI.add (gO.add hR)) ⟨hf.size, by show _ :: a.defers = _ :: N.ds; rw [hf.dfs], hf.at_⟩ ?_ ?_
  · refine ⟨put_le hs3.inp (dL3 _ hs3.dj), Heap.add_le (put_le (mI.tr hs3.ino) nI) (Heap.add_le (put_le (oA.tr hs3.ino) nO) (put_le (lR3.tr hfl3) (dL3 _ dRx))), ?_, hps3, ?_⟩
    · exact Heap.dj_symm (Heap.add_dj (Heap.dj_symm (Heap.dj_le hs3.dj (Heap.le_refl _) mI)) (Heap.add_dj (Heap.dj_symm (Heap.dj_le hs3.dj (Heap.le_refl _) oA)) (Heap.dj_le e1 lR3 (Heap.le_refl _))))
    · exact Sep.app (Heap.le_add_left _ _) (Heap.le_add_right dI3) dI3 sI3 (Sep.app (Heap.le_add_left _ _) (Heap.le_add_right dOR) dOR sO3 (Sep.up hle3 sR))
  · have dF1 : (hf0.add (Heap.one w.heap.size (.deferred (some [])))).dj ho3 := Heap.dj_le e2 lF3 (Heap.le_refl _)
    refine ⟨hb'.hp0.tr hle3, put_le (lF3.tr hfl3) (dL3 _ dF1), Heap.dj_le e1 lF3 (Heap.le_refl _), ?_, ((hb'.rest.trans hr0).trans hr3).trans put_rest⟩
    refine Heap.dj_symm (Heap.add_dj (Heap.dj_symm (Heap.dj_le dF1 (Heap.le_refl _) mI)) (Heap.add_dj (Heap.dj_symm (Heap.dj_le dF1 (Heap.le_refl _) oA)) ?_))
    exact Heap.dj_symm (Heap.add_dj fR (djD _ lR))
/-- The return, the loop's mark behind it. -/
theorem go_endM {D : Nat} {hf0 : Heap} {fin : Ctx} (hC : C = after fin D) (h0 : AtEnd fin) {v : Value} (Ps' : List PA) (Os' : List OA) {r : List OA} (hv : ∀ (a : Act) (w : World) (hp ho : Heap), Fits C.N E a → Sat w hp ho Ps Os → (results C.fn a.tmps).run C.P w = .ok v w)
    (q : C.Q v Ps' Os') (hP : Subs Ps Ps') (hO : Takes Os Os' r) {e : Exit} (he : e = .ret ∨ e = .normal) {a : Act} {w : World} {hp ho : Heap} (hf : Fits C.N E a) (hs : Sat w hp ho Ps Os) (hb : Base C w hp ho) (hd : fin.hf.dj (Heap.one D (.deferred (some [])))) :
    C.fin e a w := by
  subst hC
  have ofF : fin.hf.le (fin.hf.add (Heap.one D (.deferred (some [])))) := Heap.le_add_left _ _
  have ofD : (Heap.one D (.deferred (some []))).le (fin.hf.add (Heap.one D (.deferred (some [])))) := Heap.le_add_right hd
  have hDw : w.heap[D]? = some (.deferred (some [])) := hb.hf _ _ (ofD _ _ (one_at _ _))
  have nD : ∀ h : Heap, (fin.hf.add (Heap.one D (.deferred (some [])))).dj h → h D = none := fun h d => dj_at (Heap.dj_le d ofD (Heap.le_refl _)) (one_at _ _)
  have sat2 : Sat (w.putObj D (.deferred none)) hp ho Ps Os := ⟨put_le hs.inp (nD _ hb.djp), put_le hs.ino (nD _ hb.djo), hs.dj, hs.ps, hs.os⟩
  have h : ∃ v, (results fin.fn a.tmps).run fin.P (w.putObj D (.deferred none)) = .ok v (w.putObj D (.deferred none)) ∧ endR fin.w0 fin.hp0 fin.hf fin.Q (.returned v) (w.putObj D (.deferred none)) := by
    obtain ⟨h1, h2, a1, b, c1, d, e⟩ := Sep.takes hO sat2.os
    exact ⟨v, hv a _ hp ho hf sat2, v, hp, ho, Ps', Os', rfl, q, ⟨sat2.inp, sat2.ino, sat2.dj, (sat2.ents hP.ents).ps, Sep.mono a1 d⟩, hb.hp0, put_le (ofF.tr hb.hf) (dj_at (Heap.dj_symm hd) (one_at _ _)), Heap.dj_le hb.djp ofF (Heap.le_refl _), Heap.dj_le hb.djo ofF (Heap.le_refl _), hb.rest.trans put_rest⟩
  have hds : a.defers = [{ target := .collected D, args := #[] }] := by rw [hf.dfs]; show _ :: fin.N.ds = _; rw [h0.2]
  show fin.fin e a w
  rw [h0.1]
  rcases he with rfl | rfl <;> (show LeavesInM _ _ _ _ _ _ _ _ _; rw [hds]; exact ⟨by simp, .inl ⟨D, _, rfl, run_takeDeferred hDw, h⟩⟩)
theorem go_retR {D : Nat} {C0 : Ctx} (h0 : AtEnd C0) (hd : C0.hf.dj (Heap.one D (.deferred (some [])))) {v : Value} (Ps' : List PA) (Os' : List OA) {r : List OA} (hv : ∀ (a : Act) (w : World) (hp ho : Heap), Fits (after C0 D).N E a → Sat w hp ho Ps Os → (results (after C0 D).fn a.tmps).run (after C0 D).P w = .ok v w)
    (q : C0.Q v Ps' Os') (hP : Subs Ps Ps') (hO : Takes Os Os' r) : Go (after C0 D) (.code .ret :: k) E Ps Os := fun a w hp ho hf hs hb =>
  wpIn_ret (by show den C0.ro C0.P C0.fin k .ret a w; rw [den_ret]; exact go_endM (hf0 := Heap.nil) (fin := C0) rfl h0 Ps' Os' hv q hP hO (.inl rfl) hf hs hb hd)
end
end Go.Proofs.Ytkhddfknpegpmaa.SL

/- Sets of facts: lists that rise; where a fact stands. -/
set_option linter.unusedVariables false
set_option linter.unusedSimpArgs false
namespace Go.Proofs.Ytkhddfknpegpmaa.SL
def cF (x y : Fa) : Int := cmpF x.p x.a y.p y.a
theorem cmpL_swap : ∀ a b : List Int, cmpL a b = - cmpL b a
  | [], [] => rfl
  | [], _ :: _ => rfl
  | _ :: _, [] => rfl
  | x :: a, y :: b => by
    simp only [cmpL]
    by_cases h : x < y
    · rw [if_pos h, if_neg (by omega), if_pos h]
    · by_cases g : y < x
      · rw [if_neg h, if_pos g, if_pos g]; rfl
      · rw [if_neg h, if_neg g, if_neg g, if_neg h, cmpL_swap a b]
theorem cF_swap (x y : Fa) : cF x y = - cF y x := by
  unfold cF cmpF
  by_cases h1 : x.p < y.p
  · simp [h1, show ¬ y.p < x.p by omega]
  · by_cases h2 : y.p < x.p
    · simp [h1, h2]
    · by_cases h3 : x.a.length < y.a.length
      · simp [h1, h2, h3, show ¬ y.a.length < x.a.length by omega]
      · by_cases h4 : y.a.length < x.a.length
        · simp [h1, h2, h3, h4]
        · simp only [h1, h2, h3, h4, if_false]; exact cmpL_swap _ _
theorem cF_zero {x y : Fa} : cF x y = 0 ↔ x = y := cmpF_zero
theorem cmpL_trans : ∀ {a b c : List Int}, cmpL a b < 0 → cmpL b c < 0 → cmpL a c < 0
  | [], [], _, h, _ => by simp [cmpL] at h
  | [], _ :: _, [], _, h => by simp [cmpL] at h
  | [], _ :: _, _ :: _, _, _ => by simp [cmpL]
  | _ :: _, [], _, h, _ => by simp [cmpL] at h
  | _ :: _, _ :: _, [], _, h => by simp [cmpL] at h
  | x :: a, y :: b, z :: c, h, g => by
    simp only [cmpL] at h g ⊢
    by_cases h1 : x < y
    · by_cases g1 : y < z
      · rw [if_pos (by omega)]; omega
      · rw [if_neg g1] at g
        by_cases g2 : z < y
        · rw [if_pos g2] at g; omega
        · rw [if_pos (by omega)]; omega
    · rw [if_neg h1] at h
      by_cases h2 : y < x
      · rw [if_pos h2] at h; omega
      · rw [if_neg h2] at h
        by_cases g1 : y < z
        · rw [if_pos (by omega)]; omega
        · rw [if_neg g1] at g
          by_cases g2 : z < y
          · rw [if_pos g2] at g; omega
          · rw [if_neg g2] at g
            rw [if_neg (by omega), if_neg (by omega)]
            exact cmpL_trans h g
theorem cF_lt_iff (x y : Fa) : cF x y < 0 ↔ x.p < y.p ∨ (x.p = y.p ∧ (x.a.length < y.a.length ∨ (x.a.length = y.a.length ∧ cmpL x.a y.a < 0))) := by
  unfold cF cmpF
  by_cases h1 : x.p < y.p
  · simp [h1]
  · by_cases h2 : y.p < x.p
    · simp [h1, h2]; omega
    · by_cases h3 : x.a.length < y.a.length
      · simp [h1, h2, h3]; omega
      · by_cases h4 : y.a.length < x.a.length
        · simp [h1, h2, h3, h4]; omega
        · simp only [h1, h2, h3, h4, if_false, false_or]
          constructor
          · intro h; exact ⟨by omega, by omega, h⟩
          · exact fun h => h.2.2
theorem cF_trans {x y z : Fa} (h : cF x y < 0) (g : cF y z < 0) : cF x z < 0 := by
  rw [cF_lt_iff] at *
  rcases h with h | ⟨h1, h | ⟨h2, h3⟩⟩ <;> rcases g with g | ⟨g1, g | ⟨g2, g3⟩⟩
  · left; omega
  · left; omega
  · left; omega
  · left; omega
  · right; exact ⟨by omega, .inl (by omega)⟩
  · right; exact ⟨by omega, .inl (by omega)⟩
  · left; omega
  · right; exact ⟨by omega, .inl (by omega)⟩
  · right; exact ⟨by omega, .inr ⟨by omega, cmpL_trans h3 g3⟩⟩
/-- The facts rise. -/
def rises (l : List Fa) : Prop := l.Pairwise fun x y => cF x y < 0
/-- How many stand ahead of a fact. -/
def at_ (l : List Fa) (q : Fa) : Nat := (l.takeWhile fun x => decide (cF x q < 0)).length
theorem at_le (l : List Fa) (q : Fa) : at_ l q ≤ l.length := (List.takeWhile_sublist _).length_le
/-- The place, found from two sides. -/
theorem at_of {l : List Fa} {q : Fa} {i : Nat} (hi : i ≤ l.length) (h1 : ∀ x ∈ l.take i, cF x q < 0) (h2 : ∀ x ∈ l.drop i, ¬ cF x q < 0) : at_ l q = i := by
  unfold at_
  have e : l.takeWhile (fun x => decide (cF x q < 0)) = l.take i := by
    conv => lhs; rw [← List.take_append_drop i l]
    rw [List.takeWhile_append_of_pos (fun x hx => by simpa using h1 x hx)]
    have : (l.drop i).takeWhile (fun x => decide (cF x q < 0)) = [] := by
      cases hd : l.drop i with
      | nil => rfl
      | cons y r =>
        have := h2 y (by rw [hd]; exact .head _)
        simp [List.takeWhile_cons, this]
    rw [this, List.append_nil]
  rw [e]; simp; omega
theorem rises_take {l : List Fa} (h : rises l) {k : Nat} (hk : k < l.length) {q : Fa} (g : cF l[k] q < 0) : ∀ x ∈ l.take (k + 1), cF x q < 0 := by
  rw [List.take_succ_eq_append_getElem hk]
  intro x hx
  rcases List.mem_append.1 hx with hx | hx
  · obtain ⟨j, hj, rfl⟩ := List.mem_take_iff_getElem.1 hx
    have := List.pairwise_iff_getElem.1 h j k (by omega) hk (by omega)
    exact cF_trans this g
  · simp at hx; subst hx; exact g
theorem rises_drop {l : List Fa} (h : rises l) {k : Nat} (hk : k < l.length) {q : Fa} (g : ¬ cF l[k] q < 0) : ∀ x ∈ l.drop k, ¬ cF x q < 0 := by
  rw [List.drop_eq_getElem_cons hk]
  intro x hx
  rcases List.mem_cons.1 hx with rfl | hx
  · exact g
  · obtain ⟨j, hj, rfl⟩ := List.getElem_of_mem hx
    rw [List.getElem_drop]
    have := List.pairwise_iff_getElem.1 h k (k + 1 + j) hk (by simp at hj; omega) (by omega)
    intro c
    have h1 := cF_trans this c
    exact g h1
/-- Whether it is there. -/
theorem has_at {l : List Fa} (h : rises l) (q : Fa) : (∃ hk : at_ l q < l.length, l[at_ l q] = q) ↔ q ∈ l := by
  constructor
  · rintro ⟨hk, e⟩; rw [← e]; exact List.getElem_mem _
  · intro hm
    obtain ⟨j, hj, e⟩ := List.getElem_of_mem hm
    have : at_ l q = j := at_of (by omega) (fun x hx => by
      obtain ⟨i, hi, rfl⟩ := List.mem_take_iff_getElem.1 hx
      have := List.pairwise_iff_getElem.1 h i j (by omega) hj (by omega)
      rw [e] at this; exact this) (rises_drop h hj (by rw [e, (cF_zero (x := q) (y := q)).2 rfl]; omega))
    subst this
    exact ⟨hj, e⟩
theorem wrap_u64 {n : Int} (h : 0 ≤ n ∧ n < 18446744073709551616) : IntKind.u64.wrap n = n := by
  unfold IntKind.wrap IntKind.signed IntKind.bits
  simp
  omega
theorem half {n : Nat} : ((n : Int)).fdiv (2 ^ Nat.min 1 IntKind.u64.bits) = ((n / 2 : Nat) : Int) := by
  have : (2 : Int) ^ Nat.min 1 IntKind.u64.bits = 2 := by decide
  rw [this, Int.fdiv_eq_ediv_of_nonneg _ (by omega)]
  omega
section
variable {C : Ctx} {k : List It} {E : Env} {Ps : List PA} {Os : List OA}
theorem go_rp_fa' {x : Fa} {ds : List Value} (h : rp tFa x ds ∈ Ps) (g : ∀ A c, ds = [.int .u32 x.p, .slice A x.a.length c] → Go C k E (sl tU A c x.a :: Ps) Os) : Go C k E Ps Os := fun a w hp ho hf hs hb => by
  obtain ⟨A, c, e, s⟩ := tFa_open (hs.ps _ h)
  exact g A c e a w hp ho hf (hs.addp s) hb
theorem go_nil_sl {α : Type} {T : Ty α} {c : Nat} {xs : List α} (h : sl T none c xs ∈ Ps) (g : xs = [] → Go C k E Ps Os) : Go C k E Ps Os :=
  go_fact (φ := xs = []) _ h (fun _ s => List.eq_nil_of_length_eq_zero (by have := s.1; have := s.2.2.1 rfl; omega)) g
end
theorem bin_yes {l : List Fa} {q : Fa} {i : Nat} (h : rises l) (hi : i < l.length) (hi' : i ≤ l.length) (h1 : ∀ x ∈ l.take i, cF x q < 0) (h2 : ∀ x ∈ l.drop i, ¬ cF x q < 0) :
    Value.tuple #[.int .i64 (at_ l q : Int), .bool (decide (q ∈ l))] = Value.tuple #[.int .i64 (i : Int), .bool (decide (cmpF l[i].p l[i].a q.p q.a = 0))] := by
  have e := at_of hi' h1 h2
  have hb : decide (q ∈ l) = decide (cmpF l[i].p l[i].a q.p q.a = 0) := by
    rw [decide_eq_decide, ← has_at h q]
    constructor
    · rintro ⟨hk, g⟩
      subst e
      exact cmpF_zero.2 g
    · intro g
      subst e
      exact ⟨hi, cmpF_zero.1 g⟩
  rw [e, hb]
theorem bin_no {l : List Fa} {q : Fa} {i : Nat} (h : rises l) (hi : i = l.length) (h1 : ∀ x ∈ l.take i, cF x q < 0) : Value.tuple #[.int .i64 (at_ l q : Int), .bool (decide (q ∈ l))] = Value.tuple #[.int .i64 (i : Int), .bool false] := by
  have e : at_ l q = i := at_of (by omega) h1 (by subst hi; simp)
  have hb : decide (q ∈ l) = false := by
    rw [decide_eq_false_iff_not, ← has_at h q]
    rintro ⟨hk, _⟩
    omega
  rw [e, hb]
def fput (l : List Fa) (q : Fa) : List Fa := if q ∈ l then l else l.take (at_ l q) ++ q :: l.drop (at_ l q)
theorem fput_yes {l : List Fa} {q : Fa} (h : q ∈ l) : fput l q = l := by unfold fput; rw [if_pos h]
theorem fput_no {l : List Fa} {q : Fa} (h : ¬ q ∈ l) : fput l q = l.take (at_ l q) ++ q :: l.drop (at_ l q) := by unfold fput; rw [if_neg h]
end Go.Proofs.Ytkhddfknpegpmaa.SL

/- Contracts of functions of the program (Rel): what each call comes to, for the laws' proofs. -/
set_option linter.unusedVariables false
set_option linter.unusedSimpArgs false
namespace Go.Proofs.Ytkhddfknpegpmaa.SL
open Go 

set_option maxHeartbeats 2000000 in
set_option maxRecDepth 20000 in
theorem cloneU (A : Option Addr) (c : Nat) (a : List Int) (hn : a.length ≤ 100000) :
    Spec Try.prog 67 #[.slice A a.length c] [sl tU A c a] [] (fun v Ps' Os' => ∃ A' c', v = .slice A' a.length c' ∧ Ps' = [] ∧ Os' = [ol tU 22 A' c' a]) := by
 refine spec_of (fn := Try.f67) (args := [.slice A a.length c]) 8 Try.func67 rfl (by kernel_rfl) Try.ntmps67 (Nat.le_of_ble_eq_true rfl) (fun w0 hp0 hf0 => ?_)
 refine go_seq ?_
 refine go_region rfl ?_
 refine go_pure0 Tk rfl rfl rfl ?_
 refine go_nil ?_
 refine go_env [(0, _)] ⟨rfl, trivial⟩ ?_
 iterate 5 first | refine go_seq ?_ | refine go_region rfl ?_ | refine go_pure0 Tk rfl rfl rfl ?_
 refine go_nil ?_
 refine go_env [(0, _), (4, _)] ⟨rfl, rfl, trivial⟩ ?_
 refine go_cond rfl ?_ ?_
 ·intro c1
  (try simp only [decide_eq_true_eq, decide_eq_false_iff_not, Bool.not_eq_true', Bool.not_eq_false', Bool.not_eq_eq_eq_not, Bool.not_true, Bool.not_false, Int.not_lt, Int.not_le, beq_iff_eq, beq_eq_false_iff_ne, ne_eq] at c1)
  obtain rfl : A = none := by simpa using c1
  refine go_nil_sl (xs := a) (by repeat constructor) (fun ha => ?_)
  subst ha
  refine go_own_nil tU 22 none ?_
  refine go_seq ?_
  refine go_region rfl ?_
  refine go_pure0 Tk rfl rfl rfl ?_
  refine go_nil ?_
  refine go_env [(2, _)] ⟨rfl, trivial⟩ ?_
  refine go_ret ⟨rfl, rfl⟩ _ _ (res1 (by rfl) (.tmp rfl)) ⟨none, 0, rfl, rfl, rfl⟩ (by repeat constructor) (by repeat constructor)
 ·intro c1
  (try simp only [decide_eq_true_eq, decide_eq_false_iff_not, Bool.not_eq_true', Bool.not_eq_false', Bool.not_eq_eq_eq_not, Bool.not_true, Bool.not_false, Int.not_lt, Int.not_le, beq_iff_eq, beq_eq_false_iff_ne, ne_eq] at c1)
  refine go_skip ?_
  refine go_seq ?_
  refine go_region rfl ?_
  refine go_bslice Tk rfl rfl rfl rfl rfl rfl rfl rfl (fun h => nomatch h) ?_
  intro bo
  refine go_lit_ol (b := bo) tU [] (by repeat constructor) (fun _ _ => rfl) (by simp) ?_
  refine go_pure0 Tk rfl rfl rfl ?_
  refine go_appendN (T := tU) (xs := []) (ys := a) Tk rfl rfl rfl rfl rfl rfl rfl rfl rfl (by repeat constructor) rfl (by repeat constructor) (by simp; omega) (fun h => nomatch h) ?_
  intro A2 c2
  rw [List.nil_append]
  refine go_pure0 Tk rfl rfl rfl ?_
  refine go_nil ?_
  refine go_env [(2, _)] ⟨rfl, trivial⟩ ?_
  refine go_ret ⟨rfl, rfl⟩ _ _ (res1 (by rfl) (.tmp rfl)) ⟨A2, c2, rfl, rfl, rfl⟩ (by repeat constructor) (by repeat constructor)

set_option maxHeartbeats 2000000 in
set_option maxRecDepth 20000 in
theorem relCopied (q : Fa) (QA : Option Addr) (qc : Nat) (hn : q.a.length ≤ 100000) :
    Spec Try.prog 55 #[.agg #[.int .u32 q.p, .slice QA q.a.length qc]] [sl tU QA qc q.a] [] (fun v Ps' Os' => ∃ A' c', v = .agg #[.int .u32 q.p, .slice A' q.a.length c'] ∧ Ps' = [] ∧ Os' = [ol tU 22 A' c' q.a]) := by
 refine spec_of (fn := Try.f55) (args := [.agg #[.int .u32 q.p, .slice QA q.a.length qc]]) 8 Try.func55 rfl (by kernel_rfl) Try.ntmps55 (Nat.le_of_ble_eq_true rfl) (fun w0 hp0 hf0 => ?_)
 refine go_seq ?_
 refine go_region rfl ?_
 refine go_box Tk rfl rfl rfl rfl (by rfl) rfl rfl (fun h => nomatch h) ?_
 intro b1
 refine go_alloc Tk rfl rfl rfl (by rfl) rfl rfl (fun h => nomatch h) ?_
 intro b2
 refine go_nil ?_
 refine go_env [(1, _), (2, _)] ⟨rfl, rfl, trivial⟩ ?_
 refine go_seq ?_
 refine go_region rfl ?_
 refine go_pure0 Tk rfl rfl rfl ?_
 refine go_val0 rfl (ldv Tk rfl rfl rfl) rfl ?_
 refine go_call (cloneU QA qc q.a hn) rfl rfl (by rfl) rfl (by repeat constructor) (by repeat constructor) (fun h => nomatch h) ?_
 rintro _ _ _ ⟨A', c', rfl, rfl, rfl⟩
 refine go_pure0 Tk rfl rfl rfl ?_
 refine go_store Tk rfl rfl rfl rfl rfl rfl (by repeat constructor) rfl rfl (by rfl) (fun h => nomatch h) ?_
 refine go_nil ?_
 refine go_env [(1, _), (2, _)] ⟨rfl, rfl, trivial⟩ ?_
 refine go_seq ?_
 refine go_region rfl ?_
 refine go_val0 rfl (ldv Tk rfl rfl rfl) rfl ?_
 refine go_store Tk rfl rfl rfl rfl rfl rfl (by repeat constructor) rfl rfl (by rfl) (fun h => nomatch h) ?_
 refine go_nil ?_
 refine go_env [(2, _)] ⟨rfl, trivial⟩ ?_
 refine go_ret ⟨rfl, rfl⟩ _ _ (res1 (by rfl) (.cell rfl (rdv Tk rfl))) ⟨A', c', rfl, rfl, rfl⟩ (by repeat constructor) (by repeat constructor)

set_option maxHeartbeats 2000000 in
set_option maxRecDepth 20000 in
theorem binSearch (A : Option Addr) (c : Nat) (l : List Fa) (q : Fa) (QA : Option Addr) (qc : Nat) (hr : rises l) (hn : l.length ≤ 50000000) :
    Spec Try.prog 63 #[.slice A l.length c, .agg #[.int .u32 q.p, .slice QA q.a.length qc], .func (.func 64) #[] #[]] [sl tU QA qc q.a] [ol tFa 41 A c l] (fun v Ps' Os' => v = .tuple #[.int .i64 (at_ l q : Int), .bool (decide (q ∈ l))] ∧ Ps' = [] ∧ Os' = [ol tFa 41 A c l]) := by
 refine spec_of (fn := Try.f63) (args := [.slice A l.length c, .agg #[.int .u32 q.p, .slice QA q.a.length qc], .func (.func 64) #[] #[]]) 49 Try.func63 rfl (by kernel_rfl) Try.ntmps63 (Nat.le_of_ble_eq_true rfl) (fun w0 hp0 hf0 => ?_)
 refine go_seq ?_
 refine go_region rfl ?_
 refine go_box Tk rfl rfl rfl rfl (by rfl) rfl rfl (fun h => nomatch h) ?_
 intro b1
 iterate 2 refine go_pure0 Tk rfl rfl rfl ?_
 refine go_nil ?_
 refine go_env [(0, _), (2, _), (4, _)] ⟨rfl, rfl, rfl, trivial⟩ ?_
 iterate 5 first | refine go_seq ?_ | refine go_region rfl ?_ | refine go_pure0 Tk rfl rfl rfl ?_
 refine go_nil ?_
 refine go_env [(0, _), (2, _), (4, _), (8, _)] ⟨rfl, rfl, rfl, rfl, trivial⟩ ?_
 iterate 5 first | refine go_seq ?_ | refine go_region rfl ?_ | refine go_pure0 Tk rfl rfl rfl ?_
 refine go_nil ?_
 refine go_env [(0, _), (2, _), (4, _), (8, _), (9, _), (10, _)] ⟨rfl, rfl, rfl, rfl, rfl, rfl, trivial⟩ ?_
 refine go_seq ?_
 refine go_block ?_
 refine go_loop' (X := Nat × Nat) (fun x => [(9, .int .i64 (x.1 : Int)), (10, .int .i64 (x.2 : Int))]) [(0, _), (2, _), (4, _), (8, _)] (fun _ => []) (fun x => x.1 ≤ x.2 ∧ x.2 ≤ l.length ∧ (∀ y ∈ l.take x.1, cF y q < 0) ∧ ∀ y ∈ l.drop x.2, ¬ cF y q < 0) (fun x => x.2 - x.1) ((0, l.length)) ⟨rfl, rfl, rfl, rfl, rfl, rfl, trivial⟩ (by repeat constructor) ⟨by omega, by omega, by simp, by simp⟩ ?_
 intro ⟨i, j⟩ ⟨hij, hj, hlo, hhi⟩
 simp only at hij hj hlo hhi ⊢
 iterate 6 first | refine go_seq ?_ | refine go_region rfl ?_ | refine go_pure0 Tk rfl rfl rfl ?_
 refine go_nil ?_
 refine go_env [(0, _), (2, _), (4, _), (8, _), (9, _), (10, _), (17, _)] ⟨rfl, rfl, rfl, rfl, rfl, rfl, rfl, trivial⟩ ?_
 refine go_condD rfl ?_ ?_
 ·intro c1
  iterate 7 first | refine go_skip ?_ | refine go_block ?_ | refine go_seq ?_ | refine go_region rfl ?_ | refine go_pure0 Tk rfl rfl rfl ?_
  refine go_i64 20 rfl (by omega) (by omega) ?_
  refine go_pure0 Tk rfl rfl rfl ?_
  refine go_re 21 (.int .u64 ((i + j : Nat) : Int)) (by show some (Value.int _ _) = _; rw [wrap_u64 (by omega)]; rfl) ?_
  refine go_pure0 Tk rfl rfl rfl ?_
  refine go_re 22 (.int .u64 (((i + j) / 2 : Nat) : Int)) (by show some (Value.int _ _) = _; rw [← half]) ?_
  refine go_pure0 Tk rfl rfl rfl ?_
  refine go_i64 23 rfl (by omega) (by omega) ?_
  obtain ⟨h, hh⟩ : ∃ h, h = (i + j) / 2 := ⟨_, rfl⟩
  rw [← hh]
  have hih : i ≤ h ∧ h < j := by omega
  refine go_pure0 Tk rfl rfl rfl ?_
  refine go_nil ?_
  refine go_env [(0, _), (2, _), (4, _), (8, _), (9, _), (10, _), (11, _)] ⟨rfl, rfl, rfl, rfl, rfl, rfl, rfl, trivial⟩ ?_
  refine go_seq ?_
  refine go_ol_open (xs := l) (by repeat constructor) (by omega) (fun b0 cs cur hA h1 h2 h3 h4 h5 => ?_); cases hA
  refine go_rps_at (by repeat constructor) (h) (List.getElem?_eq_getElem (by omega)) (fun ds d1 d2 => ?_)
  refine go_rp_fa' (by repeat constructor) (fun FA fc hd => ?_); subst hd
  refine go_draw'  [4, 5] (SL.pre [(1, 0), (1, 1), (1, 2), (1, 3), (2, 4), (2, 5), (0, 6), (1, 7)] .nil) mixed rfl (by kernel_rfl) ?_
  iterate 3 refine go_pure1 Tk rfl rfl rfl ?_
  refine go_val1 rfl (idx_val Tk rfl rfl rfl rfl rfl (by omega)) rfl ?_
  refine go_val2a rfl (load_val Tk rfl rfl rfl (at_row 0 (by repeat constructor) h2 d2 rfl) rfl) rfl ?_
  refine go_val2a rfl (ldv Tk rfl rfl rfl) rfl ?_
  refine go_call (atomsCompare _ _ _ _ _ _ _ _) rfl rfl (by rfl) rfl (by repeat constructor) (by repeat constructor) (fun h => nomatch h) ?_
  rintro _ _ _ ⟨rfl, rfl, rfl⟩
  refine go_pure1 Tk rfl rfl rfl ?_
  refine go_nil ?_
  refine go_ol_close l (by repeat constructor) (by repeat constructor) h1 h2 h3 h4 ?_
  refine go_env [(0, _), (2, _), (4, _), (8, _), (9, _), (10, _), (11, _), (31, _)] ⟨rfl, rfl, rfl, rfl, rfl, rfl, rfl, rfl, trivial⟩ ?_
  refine go_condD rfl ?_ ?_
  ·intro c2
   iterate 3 first | refine go_region rfl ?_ | refine go_pure0 Tk rfl rfl rfl ?_
   refine go_i64 33 rfl (by omega) (by omega) ?_
   refine go_pure0 Tk rfl rfl rfl ?_
   refine go_nil ?_
   refine go_env [(0, _), (2, _), (4, _), (8, _), (9, _), (10, _)] ⟨rfl, rfl, rfl, rfl, rfl, rfl, trivial⟩ ?_
   refine go_blk ?_
   refine go_back (h + 1, j) ⟨rfl, rfl, rfl, rfl, rfl, rfl, trivial⟩ (by repeat constructor) (by repeat constructor) ⟨by show h + 1 ≤ j; omega, hj, rises_take hr (by omega) c2, hhi⟩ (by show j - (h + 1) < j - i; omega)
  ·intro c2
   iterate 3 first | refine go_region rfl ?_ | refine go_pure0 Tk rfl rfl rfl ?_
   refine go_nil ?_
   refine go_env [(0, _), (2, _), (4, _), (8, _), (9, _), (10, _)] ⟨rfl, rfl, rfl, rfl, rfl, rfl, trivial⟩ ?_
   refine go_blk ?_
   refine go_back (i, h) ⟨rfl, rfl, rfl, rfl, rfl, rfl, trivial⟩ (by repeat constructor) (by repeat constructor) ⟨by show i ≤ h; omega, by show h ≤ _; omega, hlo, rises_drop hr (by omega) c2⟩ (by show h - i < j - i; omega)
 ·intro c1
  refine go_exit rfl ?_
  refine go_seq ?_
  by_cases hin : i < l.length
  ·skip
   refine go_ol_open (xs := l) (by repeat constructor) (by omega) (fun b0 cs cur hA h1 h2 h3 h4 h5 => ?_); cases hA
   refine go_rps_at (by repeat constructor) (i) (List.getElem?_eq_getElem (by omega)) (fun ds d1 d2 => ?_)
   refine go_rp_fa' (by repeat constructor) (fun FA fc hd => ?_); subst hd
   refine go_draw'  [9, 10] (SL.pre [(1, 0), (1, 1), (1, 2), (1, 3), (1, 4), (1, 5), (1, 6), (1, 7), (1, 8), (2, 9), (2, 10), (0, 11), (1, 12), (1, 13), (1, 14), (1, 15)] .nil) mixed rfl (by kernel_rfl) ?_
   iterate 4 refine go_pure1 Tk rfl rfl rfl ?_
   refine go_re 38 (.bool true) (by show some (Value.bool (decide _)) = _; rw [decide_eq_true (by omega)]) ?_
   iterate 4 refine go_pure1 Tk rfl rfl rfl ?_
   refine go_val1 rfl (idx_val Tk rfl rfl rfl rfl rfl (by omega)) rfl ?_
   refine go_val2a rfl (load_val Tk rfl rfl rfl (at_row 0 (by repeat constructor) h2 d2 rfl) rfl) rfl ?_
   refine go_val2a rfl (ldv Tk rfl rfl rfl) rfl ?_
   refine go_call (atomsCompare _ _ _ _ _ _ _ _) rfl rfl (by rfl) rfl (by repeat constructor) (by repeat constructor) (fun h => nomatch h) ?_
   rintro _ _ _ ⟨rfl, rfl, rfl⟩
   iterate 4 refine go_pure1 Tk rfl rfl rfl ?_
   refine go_nil ?_
   refine go_ol_close l (by repeat constructor) (by repeat constructor) h1 h2 h3 h4 ?_
   refine go_env [(6, _), (7, _)] ⟨rfl, rfl, trivial⟩ ?_
   refine go_ret ⟨rfl, rfl⟩ _ _ (res2 (by rfl) (.tmp rfl) (.tmp rfl)) ⟨by rw [bin_yes hr hin (by omega) hlo (by have := hhi; rwa [show j = i from by omega] at this)], rfl, rfl⟩ (by repeat constructor) (by repeat constructor)
  ·skip
   refine go_draw'  [9, 10] (SL.pre [(1, 0), (1, 1), (1, 2), (1, 3), (1, 4), (1, 5), (1, 6), (1, 7), (1, 8), (2, 9), (2, 10), (0, 11), (1, 12), (1, 13), (1, 14), (1, 15)] .nil) mixed rfl (by kernel_rfl) ?_
   iterate 4 refine go_pure1 Tk rfl rfl rfl ?_
   refine go_re 38 (.bool false) (by show some (Value.bool (decide _)) = _; rw [decide_eq_false (by omega)]) ?_
   iterate 5 first | refine go_pure1 Tk rfl rfl rfl ?_ | refine go_skip1 rfl rfl ?_
   refine go_skip2 rfl (by repeat constructor) (by repeat constructor) rfl ?_
   refine go_skip2 rfl (by repeat constructor) (by repeat constructor) rfl ?_
   iterate 5 first | refine go_skip0 rfl rfl ?_ | refine go_skip1 rfl rfl ?_ | refine go_pure1 Tk rfl rfl rfl ?_
   refine go_nil ?_
   refine go_env [(6, _), (7, _)] ⟨rfl, rfl, trivial⟩ ?_
   refine go_ret ⟨rfl, rfl⟩ _ _ (res2 (by rfl) (.tmp rfl) (.tmp rfl)) ⟨by rw [bin_no hr (by omega) hlo], rfl, rfl⟩ (by repeat constructor) (by repeat constructor)

end Go.Proofs.Ytkhddfknpegpmaa.SL

/- Contracts of functions of the program (Relb): what each call comes to, for the laws' proofs. -/
set_option linter.unusedVariables false
set_option linter.unusedSimpArgs false
namespace Go.Proofs.Ytkhddfknpegpmaa.SL
open Go 

/-- A set of facts in memory. -/
def relO (b : Nat) (l : List Fa) : OA := OA.ex fun A : Option Addr => OA.ex fun c : Nat => OA.all [pt b 81 [.slice A (l).length c], ol tFa 41 A c (l)]
theorem relO_mk {b : Nat} {A : Option Addr} {c : Nat} {l : List Fa} {hp h : Heap} (q : Sep hp [pt b 81 [.slice A (l).length c], ol tFa 41 A c (l)] h) : (relO b l).p hp h := ⟨A, c, q⟩
theorem go_rel {C : Ctx} {k : List It} {E : Env} {Ps : List PA} {Os : List OA} {b : Nat} {l : List Fa} {rr : List OA} (h : Rem (relO b l) Os rr) (g : ∀ (A : Option Addr) (c : Nat), Go C k E Ps ([pt b 81 [.slice A (l).length c], ol tFa 41 A c (l)] ++ rr)) : Go C k E Ps Os :=
  go_oex h fun A => go_oex .here fun c => go_oall .here (g A c)

set_option maxHeartbeats 2000000 in
set_option maxRecDepth 20000 in
theorem relNew  :
    Spec Try.prog 33 #[] [] [] (fun v Ps' Os' => ∃ b, v = .pointer (some ⟨b, 0, none⟩) ∧ Ps' = [] ∧ Os' = [relO b []]) := by
 refine spec_of (fn := Try.f33) (args := []) 3 Try.func33 rfl (by kernel_rfl) Try.ntmps33 (Nat.le_of_ble_eq_true rfl) (fun w0 hp0 hf0 => ?_)
 refine go_seq ?_
 refine go_region rfl ?_
 refine go_pure0 Tk rfl rfl rfl ?_
 refine go_nil ?_
 refine go_env [] trivial ?_
 refine go_seq ?_
 refine go_region rfl ?_
 refine go_val0 rfl (fun a w hp ho hf hs => build_val Tk rfl rfl rfl (by rfl) a w hf) rfl ?_
 refine go_box Tk rfl rfl rfl rfl (by rfl) rfl rfl (fun h => nomatch h) ?_
 intro b
 refine go_own_nil tFa 41 none ?_
 refine go_fold [pt b 81 [.slice none ([]).length 0], ol tFa 41 none 0 ([])] (relO b ([])) (by repeat constructor) (fun _ _ q => relO_mk q) ?_
 refine go_pure0 Tk rfl rfl rfl ?_
 refine go_nil ?_
 refine go_env [(0, _)] ⟨rfl, trivial⟩ ?_
 refine go_ret ⟨rfl, rfl⟩ _ _ (res1 (by rfl) (.tmp rfl)) ⟨_, rfl, rfl, rfl⟩ (by repeat constructor) (by repeat constructor)

set_option maxHeartbeats 2000000 in
set_option maxRecDepth 20000 in
theorem relPlace (b : Nat) (l : List Fa) (q : Fa) (QA : Option Addr) (qc : Nat) (hr : rises l) (hn : l.length ≤ 50000000) :
    Spec Try.prog 53 #[.pointer (some ⟨b, 0, none⟩), .agg #[.int .u32 q.p, .slice QA q.a.length qc]] [sl tU QA qc q.a] [relO b l] (fun v Ps' Os' => v = .tuple #[.int .i64 (at_ l q : Int), .bool (decide (q ∈ l))] ∧ Ps' = [] ∧ Os' = [relO b l]) := by
 refine spec_of (fn := Try.f53) (args := [.pointer (some ⟨b, 0, none⟩), .agg #[.int .u32 q.p, .slice QA q.a.length qc]]) 16 Try.func53 rfl (by kernel_rfl) Try.ntmps53 (Nat.le_of_ble_eq_true rfl) (fun w0 hp0 hf0 => ?_)
 refine go_seq ?_
 refine go_region rfl ?_
 refine go_box Tk rfl rfl rfl rfl (by rfl) rfl rfl (fun h => nomatch h) ?_
 intro b1
 iterate 2 refine go_pure0 Tk rfl rfl rfl ?_
 refine go_nil ?_
 refine go_env [(0, _), (3, _)] ⟨rfl, rfl, trivial⟩ ?_
 iterate 5 first | refine go_seq ?_ | refine go_region rfl ?_ | refine go_pure0 Tk rfl rfl rfl ?_
 refine go_nil ?_
 refine go_env [(0, _), (3, _), (7, _)] ⟨rfl, rfl, rfl, trivial⟩ ?_
 refine go_cond_f rfl ?_
 refine go_skip ?_
 refine go_seq ?_
 refine go_rel (b := b) (by repeat constructor) (fun A1 c1 => ?_)
 refine go_draw'  [3, 4] (SL.pre [(1, 0), (1, 1), (1, 2), (2, 3), (2, 4), (0, 5), (1, 6), (1, 7), (1, 8), (1, 9)] .nil) mixed rfl (by kernel_rfl) ?_
 iterate 5 first | refine go_pure1 Tk rfl rfl rfl ?_ | refine go_val2a rfl (ldv Tk rfl rfl rfl) rfl ?_
 refine go_call (binSearch A1 c1 l q QA qc hr hn) rfl rfl (by rfl) rfl (by repeat constructor) (by repeat constructor) (fun h => nomatch h) ?_
 rintro _ _ _ ⟨rfl, rfl, rfl⟩
 iterate 4 refine go_pure1 Tk rfl rfl rfl ?_
 refine go_nil ?_
 refine go_fold [pt b 81 [.slice A1 (l).length c1], ol tFa 41 A1 c1 (l)] (relO b (l)) (by repeat constructor) (fun _ _ q => relO_mk q) ?_
 refine go_env [(4, _), (5, _)] ⟨rfl, rfl, trivial⟩ ?_
 refine go_ret ⟨rfl, rfl⟩ _ _ (res2 (by rfl) (.tmp rfl) (.tmp rfl)) ⟨rfl, rfl, rfl⟩ (by repeat constructor) (by repeat constructor)

set_option maxHeartbeats 2000000 in
set_option maxRecDepth 20000 in
theorem relPlace0 (q : Fa) (QA : Option Addr) (qc : Nat) :
    Spec Try.prog 53 #[.pointer none, .agg #[.int .u32 q.p, .slice QA q.a.length qc]] [] [] (fun v Ps' Os' => v = .tuple #[.int .i64 0, .bool false] ∧ Ps' = [] ∧ Os' = []) := by
 refine spec_of (fn := Try.f53) (args := [.pointer none, .agg #[.int .u32 q.p, .slice QA q.a.length qc]]) 16 Try.func53 rfl (by kernel_rfl) Try.ntmps53 (Nat.le_of_ble_eq_true rfl) (fun w0 hp0 hf0 => ?_)
 refine go_seq ?_
 refine go_region rfl ?_
 refine go_box Tk rfl rfl rfl rfl (by rfl) rfl rfl (fun h => nomatch h) ?_
 intro b1
 iterate 2 refine go_pure0 Tk rfl rfl rfl ?_
 refine go_nil ?_
 refine go_env [(0, _), (3, _)] ⟨rfl, rfl, trivial⟩ ?_
 iterate 5 first | refine go_seq ?_ | refine go_region rfl ?_ | refine go_pure0 Tk rfl rfl rfl ?_
 refine go_nil ?_
 refine go_env [(0, _), (3, _), (7, _)] ⟨rfl, rfl, rfl, trivial⟩ ?_
 refine go_cond_t rfl ?_
 iterate 4 first | refine go_seq ?_ | refine go_region rfl ?_ | refine go_pure0 Tk rfl rfl rfl ?_
 refine go_nil ?_
 refine go_env [(4, _), (5, _)] ⟨rfl, rfl, trivial⟩ ?_
 refine go_ret ⟨rfl, rfl⟩ _ _ (res2 (by rfl) (.tmp rfl) (.tmp rfl)) ⟨rfl, rfl, rfl⟩ (by repeat constructor) (by repeat constructor)

set_option maxHeartbeats 2000000 in
set_option maxRecDepth 20000 in
theorem relHas (b : Nat) (l : List Fa) (q : Fa) (QA : Option Addr) (qc : Nat) (hr : rises l) (hn : l.length ≤ 50000000) :
    Spec Try.prog 46 #[.pointer (some ⟨b, 0, none⟩), .agg #[.int .u32 q.p, .slice QA q.a.length qc]] [sl tU QA qc q.a] [relO b l] (fun v Ps' Os' => v = .bool (decide (q ∈ l)) ∧ Ps' = [] ∧ Os' = [relO b l]) := by
 refine spec_of (fn := Try.f46) (args := [.pointer (some ⟨b, 0, none⟩), .agg #[.int .u32 q.p, .slice QA q.a.length qc]]) 14 Try.func46 rfl (by kernel_rfl) Try.ntmps46 (Nat.le_of_ble_eq_true rfl) (fun w0 hp0 hf0 => ?_)
 refine go_seq ?_
 refine go_region rfl ?_
 refine go_box Tk rfl rfl rfl rfl (by rfl) rfl rfl (fun h => nomatch h) ?_
 intro b1
 refine go_pure0 Tk rfl rfl rfl ?_
 refine go_nil ?_
 refine go_env [(0, _), (3, _)] ⟨rfl, rfl, trivial⟩ ?_
 refine go_seq ?_
 refine go_region rfl ?_
 refine go_pure0 Tk rfl rfl rfl ?_
 refine go_val0 rfl (ldv Tk rfl rfl rfl) rfl ?_
 refine go_call (relPlace b l q QA qc hr hn) rfl rfl (by rfl) rfl (by repeat constructor) (by repeat constructor) (fun h => nomatch h) ?_
 rintro _ _ _ ⟨rfl, rfl, rfl⟩
 iterate 5 refine go_pure0 Tk rfl rfl rfl ?_
 refine go_nil ?_
 refine go_env [(6, _)] ⟨rfl, trivial⟩ ?_
 iterate 4 first | refine go_seq ?_ | refine go_region rfl ?_ | refine go_pure0 Tk rfl rfl rfl ?_
 refine go_nil ?_
 refine go_env [(4, _)] ⟨rfl, trivial⟩ ?_
 refine go_ret ⟨rfl, rfl⟩ _ _ (res1 (by rfl) (.tmp rfl)) ⟨rfl, rfl, rfl⟩ (by repeat constructor) (by repeat constructor)

set_option maxHeartbeats 2000000 in
set_option maxRecDepth 20000 in
theorem relLen (b : Nat) (l : List Fa) :
    Spec Try.prog 23 #[.pointer (some ⟨b, 0, none⟩)] [] [relO b l] (fun v Ps' Os' => v = .int .i64 (l.length : Int) ∧ Ps' = [] ∧ Os' = [relO b l]) := by
 refine spec_of (fn := Try.f23) (args := [.pointer (some ⟨b, 0, none⟩)]) 10 Try.func23 rfl (by kernel_rfl) Try.ntmps23 (Nat.le_of_ble_eq_true rfl) (fun w0 hp0 hf0 => ?_)
 refine go_seq ?_
 refine go_region rfl ?_
 refine go_pure0 Tk rfl rfl rfl ?_
 refine go_nil ?_
 refine go_env [(0, _)] ⟨rfl, trivial⟩ ?_
 iterate 5 first | refine go_seq ?_ | refine go_region rfl ?_ | refine go_pure0 Tk rfl rfl rfl ?_
 refine go_nil ?_
 refine go_env [(0, _), (4, _)] ⟨rfl, rfl, trivial⟩ ?_
 refine go_cond_f rfl ?_
 refine go_skip ?_
 refine go_seq ?_
 refine go_rel (b := b) (by repeat constructor) (fun A1 c1 => ?_)
 iterate 7 first | refine go_region rfl ?_ | refine go_pure0 Tk rfl rfl rfl ?_ | refine go_val0 rfl (ldv Tk rfl rfl rfl) rfl ?_
 refine go_nil ?_
 refine go_fold [pt b 81 [.slice A1 (l).length c1], ol tFa 41 A1 c1 (l)] (relO b (l)) (by repeat constructor) (fun _ _ q => relO_mk q) ?_
 refine go_env [(2, _)] ⟨rfl, trivial⟩ ?_
 refine go_ret ⟨rfl, rfl⟩ _ _ (res1 (by rfl) (.tmp rfl)) ⟨rfl, rfl, rfl⟩ (by repeat constructor) (by repeat constructor)

set_option maxHeartbeats 2000000 in
set_option maxRecDepth 20000 in
theorem relLen0  :
    Spec Try.prog 23 #[.pointer none] [] [] (fun v Ps' Os' => v = .int .i64 0 ∧ Ps' = [] ∧ Os' = []) := by
 refine spec_of (fn := Try.f23) (args := [.pointer none]) 10 Try.func23 rfl (by kernel_rfl) Try.ntmps23 (Nat.le_of_ble_eq_true rfl) (fun w0 hp0 hf0 => ?_)
 refine go_seq ?_
 refine go_region rfl ?_
 refine go_pure0 Tk rfl rfl rfl ?_
 refine go_nil ?_
 refine go_env [(0, _)] ⟨rfl, trivial⟩ ?_
 iterate 5 first | refine go_seq ?_ | refine go_region rfl ?_ | refine go_pure0 Tk rfl rfl rfl ?_
 refine go_nil ?_
 refine go_env [(0, _), (4, _)] ⟨rfl, rfl, trivial⟩ ?_
 refine go_cond_t rfl ?_
 refine go_seq ?_
 refine go_region rfl ?_
 refine go_pure0 Tk rfl rfl rfl ?_
 refine go_nil ?_
 refine go_env [(2, _)] ⟨rfl, trivial⟩ ?_
 refine go_ret ⟨rfl, rfl⟩ _ _ (res1 (by rfl) (.tmp rfl)) ⟨rfl, rfl, rfl⟩ (by repeat constructor) (by repeat constructor)

end Go.Proofs.Ytkhddfknpegpmaa.SL

/- copy, append of zeros, the library's word on two slices' overlapping. -/
set_option linter.unusedVariables false
set_option linter.unusedSimpArgs false
namespace Go.Proofs.Ytkhddfknpegpmaa.SL
section
variable {C : Ctx} {k : List It} {E : Env} {Ps : List PA} {Os : List OA}
variable {o : Oper} {ops : Array Oper} {S : World → Prop} {r : Pl} {f : Bool}
theorem go_copy {tb : TB} (ht : TOk C.P tb) {d x : Operand} {t e : TypeId} {s1 : Nat} {a1 : Bool} {z1 : Value} {y1 : Nat} {i : TI} {b oo dn dc sn sc b2 o2 : Nat} {cur news : List Value} {rr : List OA}
    (ho : o.op = .call ⟨.builtin .copy, #[d, x], #[t, t]⟩) (hw : wants ops E o = some true) (hd' : ev E d = some (.slice (some ⟨b, oo, none⟩) dn dc)) (hx : ev E x = some (.slice (some ⟨b2, o2, none⟩) sn sc)) (hi : lookT tb t = some ⟨.slice e, s1, a1, z1, y1⟩) (he : lookT tb e = some i)
    (hd : okDst C.N o.dst = true) (hr : Rem (pt b e cur) Os rr) (m : Nat) (hm : Nat.min sn dn = m) (hnews : At Ps Os b2 o2 (m * i.size) news) (h1 : oneCells news = true) (hl : oo + m * i.size ≤ cur.length)
    (hS : f = true → ∀ w hp ho, Sat w hp ho Ps (pt b e (putS oo news cur) :: rr) → S w)
    (g : Go C (.ops ops S r :: k) (setE o.dst (.int .i64 (m : Int)) E) Ps (pt b e (putS oo news cur) :: rr)) : Go C (.ops ops S (.one 0 f o r) :: k) E Ps Os :=
  go_eff (α := Unit) (fun _ => .int .i64 (m : Int)) (fun _ => Ps) (fun _ => pt b e (putS oo news cur) :: rr) hw hd (fun a w hp ho' hf hs hb => by
    have hu := (ht _ _ hi).u
    have hsz := (ht _ _ he).size w
    obtain ⟨h1', _, la, _, _, d1, _⟩ := Sep.rem hr hs.os
    change h1' b = _ at d1
    have hbw : w.heap[b]? = _ := hs.ino _ _ (la _ _ d1)
    have hlen : news.length = m * i.size := hnews.1
    have hload : (loadCells ⟨b2, o2, none⟩ (m * i.size)).run C.P w = .ok news.toArray w := by
      have := loadCells_run (P := C.P) (w := w) (b := b2) (m * i.size) 0 o2 news #[] hlen (fun j v hj => by rw [Nat.zero_add]; exact hnews.2 w hp ho' hs j v hj)
      simpa [loadCells] using this
    obtain ⟨c', hrun, hc'⟩ := run_storeCells (P := C.P) (b := b) (ty := e) (o := oo) news 0 cur.toArray w hbw (by rw [hlen]; simpa using hl) h1
    have : c' = (putS oo news cur).toArray := by apply Array.ext'; rw [hc']; simp [putS]
    subst this
    obtain ⟨ho2, h2, h3⟩ := sat_store (C := C) (cs' := putS oo news cur) hr hs hb
    refine ⟨(), _, hp, ho2, ?_, h2, h3⟩
    have hcopy : (Builtin.copy_ #[t, t] o.type #[.slice (some ⟨b, oo, none⟩) dn dc, .slice (some ⟨b2, o2, none⟩) sn sc]).run C.P w = .ok (.int .i64 (m : Int)) { w with heap := w.heap.setIfInBounds b (.cells (putS oo news cur).toArray e (0, 0)) } := by
      simp [Builtin.copy_, run_und hu w, hsz, Builtin.lenOf, Builtin.firstCells, hm, hload, hrun, goInt]
    simp [execOp, ho, resolve, invoke, builtin, hf.ev hd', hf.ev hx, hcopy]) (fun e x => hS e) (fun _ => g)
/-- append of zeros where there is no room: a new row; the old one stays. -/
theorem go_append_zeros {tb : TB} (ht : TOk C.P tb) {s x : Operand} {t t2 e : TypeId} {s1 : Nat} {a1 : Bool} {z1 : Value} {y1 : Nat} {kk : IntKind} {s2 : Nat} {a2 : Bool} {z2 : Value} {y2 : Nat} {i : TI} {b n c m : Nat} {old : List Value}
    (ho : o.op = .call ⟨.builtin .append, #[s, x], #[t, t2]⟩) (hw : wants ops E o = some true) (hs : ev E s = some (.slice (some ⟨b, 0, none⟩) n c)) (hx : ev E x = some (.int .i64 (m : Int))) (hi : lookT tb t = some ⟨.slice e, s1, a1, z1, y1⟩) (hi2 : lookT tb t2 = some ⟨.int kk, s2, a2, z2, y2⟩) (he : lookT tb e = some i)
    (hz : Nat.beq (cellsL i.zero).length i.size = true) (hy : Nat.ble i.bytes 100000 = true) (hd : okDst C.N o.dst = true) (hold : At Ps Os b 0 (n * i.size) old) (hc : c < n + m) (hn : n + m ≤ 100000000) (hpos : 0 < m) (hsz0 : Nat.ble 1 i.size = true)
    (hS : f = true → ∀ (b' : Nat) (cur : List Value) w hp ho, Sat w hp ho Ps (pt b' e cur :: Os) → S w)
    (g : ∀ (b' c' : Nat) (cur : List Value), cur.length = c' * i.size → cur.take (n * i.size) = old → n + m ≤ c' → c' ≤ maxLen → Go C (.ops ops S r :: k) (setE o.dst (.slice (some ⟨b', 0, none⟩) (n + m) c') E) Ps (pt b' e cur :: Os)) : Go C (.ops ops S (.one 0 f o r) :: k) E Ps Os := by
  have hzs : (i.zero.cells).size = i.size := by rw [cellsL_eq]; simpa using Nat.eq_of_beq_eq_true hz
  let cur : Nat → List Value := fun c' => old ++ (Builtin.zeroCells i.zero.cells m).toList ++ (Builtin.zeroCells i.zero.cells (c' - (n + m))).toList
  have hcl : ∀ c', n + m ≤ c' → (cur c').length = c' * i.size := fun c' h => by
    simp only [cur, List.length_append, Array.length_toList, size_zeroCells, hzs, hold.1, ← Nat.add_mul]
    congr 1; omega
  have hct : ∀ c', (cur c').take (n * i.size) = old := fun c' => by
    simp only [cur, List.append_assoc]
    rw [← hold.1, List.take_left]
  refine go_eff (α := { x : Nat × Nat // n + m ≤ x.2 ∧ x.2 ≤ maxLen }) (fun x => .slice (some ⟨x.1.1, 0, none⟩) (n + m) x.1.2) (fun _ => Ps) (fun x => pt x.1.1 e (cur x.1.2) :: Os) hw hd (fun a w hp ho' hf hs' hb => ?_) (fun e x => hS e _ _) (fun x => g x.1.1 x.1.2 _ (hcl _ x.2.1) (hct _) x.2.1 x.2.2)
  have hu := (ht _ _ hi).u
  have hu2 := (ht _ _ hi2).u
  obtain ⟨xi, q1, q2, q3, q4⟩ := (ht _ _ he).info
  have hby := Nat.le_of_ble_eq_true hy
  have hsz1 := Nat.le_of_ble_eq_true hsz0
  have hcap := grownCap_ge w (n + m) c e
  have hcapm := grownCap_le_maxLen w (n + m) c e (by simp only [maxLen]; omega)
  obtain ⟨ho2, h2, h3⟩ := sat_alloc (C := C) (w := { w with drawn := w.drawn + 1 }) ⟨hs'.inp, hs'.ino, hs'.dj, hs'.ps, hs'.os⟩ hb.drew (pt w.heap.size e (cur (grownCap w (n + m) c e))) (.cells (cur (grownCap w (n + m) c e)).toArray e) (fun h q => q)
  refine ⟨⟨(w.heap.size, grownCap w (n + m) c e), hcap, hcapm⟩, _, hp, ho2, ?_, h2, h3⟩
  have hfo := run_firstCells_some (P := C.P) w.drew xi.size n ⟨b, 0, none⟩ n c old (by rw [q3]; exact hold.1) (fun j v hj => by rw [run_addOff]; exact hold.2 w hp ho' hs' j v hj)
  have hwm : IntKind.i64.wrap (m : Int) = (m : Int) := wrap_i64 (by omega) (by omega)
  have hmb : m * i.bytes ≤ 100000000 * 100000 := Nat.mul_le_mul (by omega) hby
  have hmb' : ¬ (281474976710656 < (m : Int) * (i.bytes : Int)) := by
    rw [← Int.natCast_mul]; omega
  have hnb : (n + m) * i.bytes ≤ 100000000 * 100000 := Nat.mul_le_mul hn hby
  have h48 : ¬ (281474976710656 < Builtin.nextslicecap (n + m) c * i.bytes) := by
    have := growslice_fits hc (show (n + m) * i.bytes ≤ 140737488355328 by omega)
    omega
  have hnc : ¬ (n + m ≤ c) := by omega
  have h63 : ¬ (9223372036854775807 < ((n : Int) + (m : Int))) := by omega
  have hm0 : ¬ (m * i.size = 0) := by
    have := Nat.mul_le_mul hpos hsz1
    omega
  have hrun : (Builtin.append_ #[t, t2] o.type #[.slice (some ⟨b, 0, none⟩) n c, .int .i64 (m : Int)]).run C.P w = .ok (.slice (some ⟨w.heap.size, 0, none⟩) (n + m) (grownCap w (n + m) c e)) (w.drew.alloc (.cells (cur (grownCap w (n + m) c e)).toArray e)) := by
    rw [q3] at hfo
    simp [Builtin.append_, run_underlying hu, run_underlying hu2, sizeOf, typeInfo, zeroValue, q1, q2, q3, q4, asInt, asIntOf, hwm, hmb', h48, hnc, h63, hm0, Question.forced, hfo, newRow, grownCap, show ¬ ((m : Int) < 0) by omega]
    congr 2
    apply Array.ext'
    simp [cur]
  simp [execOp, ho, resolve, invoke, builtin, hf.ev hs, hf.ev hx, hrun]
  rfl
/-- A call of a library function that the model answers itself. -/
theorem ext_val {c : Call} {g : FuncId} {l : List Value} {fn : Func} {e : Array Value → Sem Value} {v : Value} (hfn : C.P.funcs[g]? = some fn) (hname : (fn.name == "runtime.NumGoroutine") = false) (hb : fn.body.isNone = true) (hnx : Extern.findNext fn = none) (he : Extern.find fn = some e)
    (ho : o.op = .call c) (hc : calleeOf E c = some (g, l)) (hrun : ∀ w hp ho, Sat w hp ho Ps Os → (e l.toArray).run C.P w = .ok v w) :
    ∀ a w hp ho, Fits C.N E a → Sat w hp ho Ps Os → (execOp a.eval o).run C.P w = .ok (.value v) w := fun a w hp ho' hf hs => by
  obtain ⟨callee, args, tys⟩ := c
  unfold calleeOf at hc
  simp only at hc
  split at hc
  · rename_i x
    split at hc
    · rename_i g' first cap e1
      split at hc
      · rename_i l' e2
        cases hc
        have := evs_eq hf e2
        have hargs : first ++ args.map a.eval ++ cap = (first.toList ++ (l' ++ cap.toList)).toArray := by
          apply Array.ext'
          simp [← this]
        have hcf := run_callFunc_extern (P := C.P) hfn hname hb hnx he (first ++ args.map a.eval ++ cap) w
        rw [hargs, hrun w hp ho' hs] at hcf
        simp only [execOp, ho, resolve, hf.ev e1, Deferred.ofValue, invoke, Sem.run_bind, Sem.run_pure, Result.andThen_ok, hargs, hcf]
      · cases hc
    · cases hc
  · cases hc
/-- Two slices in two blocks of one's own do not overlap. -/
theorem apart_run {tb : TB} (ht : TOk C.P tb) {tS tR e : TypeId} {s1 : Nat} {a1 : Bool} {z1 : Value} {y1 : Nat} {i : TI} (hi : lookT tb tS = some ⟨.slice e, s1, a1, z1, y1⟩) (he : lookT tb e = some i) {ba bb ta tb' oa ob la ca lb cb : Nat} {csa csb : List Value} {r1 r2 : List OA} (ha : Rem (pt ba ta csa) Os r1) (hb : Rem (pt bb tb' csb) r1 r2) (hne : csb ≠ []) :
    ∀ w hp ho, Sat w hp ho Ps Os → (Extern.SlicesOverlaps.overlaps #[tS, tS] #[tR] #[.slice (some ⟨ba, oa, none⟩) la ca, .slice (some ⟨bb, ob, none⟩) lb cb]).run C.P w = .ok (.bool false) w := fun w hp ho hs => by
  obtain ⟨g1, g2, x1, x2, x3, x4, x5⟩ := Sep.rem ha hs.os
  obtain ⟨k1, k2, y1', y2, y3, y4, y5⟩ := Sep.rem hb x5
  change g1 ba = _ at x4
  change k1 bb = _ at y4
  have hn : ba ≠ bb := fun q => by
    subst q
    rcases x3 ba with z | z
    · rw [x4] at z; cases z
    · rw [y1' _ _ y4] at z; cases z
  have wa : w.heap[ba]? = _ := hs.ino _ _ (x1 _ _ x4)
  have wb : w.heap[bb]? = _ := hs.ino _ _ (x2 _ _ (y1' _ _ y4))
  refine Lib.run_overlaps_apart w tS tR e (ht _ _ hi).u i.size (ht _ _ he).size ⟨ba, oa, none⟩ ⟨bb, ob, none⟩ la ca lb cb hn ta tb' csa.length csb.length ?_ ?_ ?_ ?_ ?_
  · simp [World.shape?, wa]
  · simp [World.shape?, wb]
  · cases csb with
    | nil => exact absurd rfl hne
    | cons _ _ => simp
  · simp [World.frozen?, wa]
  · simp [World.frozen?, wa]
end
end Go.Proofs.Ytkhddfknpegpmaa.SL

/- One element put into a row: what the cells are then. -/
set_option linter.unusedVariables false
set_option linter.unusedSimpArgs false
namespace Go.Proofs.Ytkhddfknpegpmaa.SL
theorem Reps.ins {α : Type} {T : Ty α} {h : Heap} {xs : List α} {cs v : List Value} {q : α} (r : Reps T h xs cs) (hq : T.rep h q v) {k : Nat} (hk : k ≤ xs.length) : Reps T h (xs.take k ++ q :: xs.drop k) (cs.take (k * T.size) ++ (v ++ cs.drop (k * T.size))) := by
  have h0 := Reps.split (xs := xs.take k) (ys := xs.drop k) (by rw [List.take_append_drop]; exact r)
  rw [List.length_take, Nat.min_eq_left hk] at h0
  exact h0.1.app ⟨v, _, rfl, hq, h0.2⟩
/-- The element and what is behind it, laid behind what is ahead. -/
theorem ins_cells {n k c s : Nat} {cs cur v : List Value} (hcs : cs.length = n * s) (hv : v.length = s) (hc : cur.length = c * s) (ht : cur.take (k * s) = cs.take (k * s)) (hk : k ≤ n) (hn : n + 1 ≤ c) (o1 o2 : Nat) (h1 : o1 = k * s) (h2 : o2 = (k + 1) * s) :
    (putS o2 (cs.drop (k * s)) (putS o1 v cur)).take ((n + 1) * s) = cs.take (k * s) ++ (v ++ cs.drop (k * s)) ∧ (putS o2 (cs.drop (k * s)) (putS o1 v cur)).length = c * s ∧ o1 + 1 * s ≤ cur.length ∧ o2 + (n - k) * s ≤ (putS o1 v cur).length := by
  subst h1; subst h2
  have hd : (cs.drop (k * s)).length = (n - k) * s := by rw [List.length_drop, hcs, Nat.sub_mul]
  have m1 : (k + 1) * s ≤ c * s := Nat.mul_le_mul_right _ (by omega)
  have m2 : (k + 1) * s + (n - k) * s = (n + 1) * s := by rw [← Nat.add_mul]; congr 1; omega
  have m3 : (n + 1) * s ≤ c * s := Nat.mul_le_mul_right _ hn
  have e1 : (k + 1) * s = k * s + s := by rw [Nat.add_mul, Nat.one_mul]
  have l1 : k * s + v.length ≤ cur.length := by rw [hv, hc]; omega
  have l2 : (k + 1) * s + (cs.drop (k * s)).length ≤ (putS (k * s) v cur).length := by rw [putS_len l1, hd, hc]; omega
  refine ⟨?_, by rw [putS_len l2, putS_len l1, hc], by rw [hc]; omega, by rw [putS_len l1, hc]; omega⟩
  rw [putS_take l2 (by rw [hd]; omega), putS_take l1 (by rw [hv]; omega), ht, List.append_assoc]
/-- The other way round: what is behind first, then the element. -/
theorem ins_cells2 {n k c s : Nat} {cs cur v : List Value} (hcs : cs.length = n * s) (hv : v.length = s) (hc : cur.length = c * s) (ht : cur.take (n * s) = cs) (hk : k ≤ n) (hn : n + 1 ≤ c) (o1 o2 : Nat) (h1 : o1 = k * s) (h2 : o2 = (k + 1) * s) :
    (putS o1 v (putS o2 (cs.drop (k * s)) cur)).take ((n + 1) * s) = cs.take (k * s) ++ (v ++ cs.drop (k * s)) ∧ (putS o1 v (putS o2 (cs.drop (k * s)) cur)).length = c * s ∧ o2 + (n - k) * s ≤ cur.length ∧ o1 + 1 * s ≤ (putS o2 (cs.drop (k * s)) cur).length := by
  subst h1; subst h2
  have hd : (cs.drop (k * s)).length = (n - k) * s := by rw [List.length_drop, hcs, Nat.sub_mul]
  have m1 : (k + 1) * s ≤ c * s := Nat.mul_le_mul_right _ (by omega)
  have m2 : (k + 1) * s + (n - k) * s = (n + 1) * s := by rw [← Nat.add_mul]; congr 1; omega
  have m3 : (n + 1) * s ≤ c * s := Nat.mul_le_mul_right _ hn
  have m4 : k * s ≤ n * s := Nat.mul_le_mul_right _ hk
  have e1 : (k + 1) * s = k * s + s := by rw [Nat.add_mul, Nat.one_mul]
  have l2 : (k + 1) * s + (cs.drop (k * s)).length ≤ cur.length := by rw [hd, hc]; omega
  have l1 : k * s + v.length ≤ (putS ((k + 1) * s) (cs.drop (k * s)) cur).length := by rw [putS_len l2, hv, hc]; omega
  refine ⟨?_, by rw [putS_len l1, putS_len l2, hc], by rw [hc]; omega, by rw [putS_len l2, hc]; omega⟩
  have hA : (putS (k * s) v (putS ((k + 1) * s) (cs.drop (k * s)) cur)).take ((n + 1) * s) = putS (k * s) v ((putS ((k + 1) * s) (cs.drop (k * s)) cur).take ((n + 1) * s)) := putS_take_comm (by rw [hv]; omega) l1
  rw [hA, putS_take l2 (by rw [hd]; omega)]
  unfold putS
  have t1 : (cur.take ((k + 1) * s)).length = (k + 1) * s := by rw [List.length_take, hc]; omega
  rw [List.take_append_of_le_length (by rw [t1]; omega), List.take_take, Nat.min_eq_left (by omega), List.drop_append, t1, hv, List.drop_of_length_le (by rw [t1]; omega), List.nil_append, show k * s + s - (k + 1) * s = 0 from by omega, List.drop_zero, ← ht, List.take_take, Nat.min_eq_left (by omega)]
theorem at_head {Ps : List PA} {Os : List OA} {b e p m n : Nat} {cs cur : List Value} {rr : List OA} (h : Rem (pt b e cur) Os rr) (h2 : cur.take m = cs) (hp : p ≤ cs.length) (hn : p = n) : At Ps Os b 0 n (cs.take p) :=
  at_any h (by rw [List.length_take, Nat.min_eq_left hp, hn]) (fun i v hv => by
    rw [List.getElem?_take] at hv
    split at hv
    · rw [← h2, List.getElem?_take] at hv
      split at hv
      · rw [Nat.zero_add]; exact hv
      · cases hv
    · cases hv)
end Go.Proofs.Ytkhddfknpegpmaa.SL

/- Contracts of functions of the program (Relins): what each call comes to, for the laws' proofs. -/
set_option linter.unusedVariables false
set_option linter.unusedSimpArgs false
namespace Go.Proofs.Ytkhddfknpegpmaa.SL
open Go 

set_option maxHeartbeats 2000000 in
set_option maxRecDepth 20000 in
theorem insertFa (A : Option Addr) (c : Nat) (l : List Fa) (k bv : Nat) (q : Fa) (QA : Option Addr) (qc : Nat) (hk : k ≤ l.length) (hn : l.length ≤ 50000000) :
    Spec Try.prog 54 #[.slice A l.length c, .int .i64 (k : Int), .slice (some ⟨bv, 0, none⟩) 1 1] [sl tU QA qc q.a] [ol tFa 41 A c l, pt bv 41 [Value.int IntKind.u32 q.p, Value.slice QA q.a.length qc]] (fun v Ps' Os' => ∃ A2 c2, v = .slice A2 (l.take k ++ q :: l.drop k).length c2 ∧ Ps' = [] ∧ Os' = [ol tFa 41 A2 c2 (l.take k ++ q :: l.drop k)]) := by
 refine spec_of (fn := Try.f54) (args := [.slice A l.length c, .int .i64 (k : Int), .slice (some ⟨bv, 0, none⟩) 1 1]) 95 Try.func54 rfl (by kernel_rfl) Try.ntmps54 (Nat.le_of_ble_eq_true rfl) (fun w0 hp0 hf0 => ?_)
 refine go_seq ?_
 refine go_len_ol (xs := l) (by repeat constructor) (fun l0 m0 => ?_)
 refine go_region rfl ?_
 refine go_pure0 Tk rfl rfl rfl ?_
 refine go_nil ?_
 refine go_env [(0, _), (1, _), (2, _)] ⟨rfl, rfl, rfl, trivial⟩ ?_
 iterate 4 first | refine go_seq ?_ | refine go_region rfl ?_ | refine go_pure0 Tk rfl rfl rfl ?_
 refine go_val0 rfl (slice_val' Tk rfl rfl rfl rfl k l.length c _ (by first | rfl | exact ⟨_, rfl⟩ | exact ⟨rfl, rfl⟩) (by first | rfl | exact ⟨_, rfl⟩ | exact ⟨rfl, rfl⟩) (by first | rfl | exact ⟨_, rfl⟩ | exact ⟨rfl, rfl⟩) hk (by omega) (by omega) rfl) rfl ?_
 refine go_nil ?_
 refine go_env [(0, _), (1, _), (2, _)] ⟨rfl, rfl, rfl, trivial⟩ ?_
 iterate 5 first | refine go_seq ?_ | refine go_region rfl ?_ | refine go_pure0 Tk rfl rfl rfl ?_
 refine go_nil ?_
 refine go_env [(0, _), (1, _), (2, _), (7, _)] ⟨rfl, rfl, rfl, rfl, trivial⟩ ?_
 iterate 5 first | refine go_seq ?_ | refine go_region rfl ?_ | refine go_pure0 Tk rfl rfl rfl ?_
 refine go_nil ?_
 refine go_env [(0, _), (1, _), (2, _), (7, _), (16, _)] ⟨rfl, rfl, rfl, rfl, rfl, trivial⟩ ?_
 refine go_condD rfl ?_ ?_
 ·intro c1
  exfalso; omega
 ·intro c1
  iterate 6 first | refine go_skip ?_ | refine go_seq ?_ | refine go_region rfl ?_ | refine go_pure0 Tk rfl rfl rfl ?_
  refine go_nil ?_
  refine go_env [(0, _), (1, _), (2, _), (7, _), (8, _)] ⟨rfl, rfl, rfl, rfl, rfl, trivial⟩ ?_
  iterate 6 first | refine go_seq ?_ | refine go_region rfl ?_ | refine go_pure0 Tk rfl rfl rfl ?_
  refine go_nil ?_
  refine go_env [(0, _), (1, _), (2, _), (7, _), (8, _), (22, _)] ⟨rfl, rfl, rfl, rfl, rfl, rfl, trivial⟩ ?_
  refine go_condD rfl ?_ ?_
  ·intro ck
   obtain rfl : k = l.length := by omega
   rw [List.take_length, List.drop_length]
   iterate 4 first | refine go_seq ?_ | refine go_region rfl ?_ | refine go_pure0 Tk rfl rfl rfl ?_
   refine go_append1 (T := tFa) Tk q rfl rfl rfl rfl rfl rfl rfl rfl rfl (by repeat constructor) (by repeat constructor) rfl (ent_fa (by repeat constructor)) (by omega) (fun h => nomatch h) ?_
   intro A2 c2
   refine go_pure0 Tk rfl rfl rfl ?_
   refine go_nil ?_
   refine go_env [(6, _)] ⟨rfl, trivial⟩ ?_
   refine go_ret ⟨rfl, rfl⟩ _ _ (res1 (by rfl) (.tmp rfl)) ⟨A2, c2, rfl, rfl, rfl⟩ (by repeat constructor) (by repeat constructor)
  ·intro ck
   iterate 7 first | refine go_skip ?_ | refine go_seq ?_ | refine go_region rfl ?_ | refine go_pure0 Tk rfl rfl rfl ?_
   refine go_i64 28 rfl (by omega) (by omega) ?_
   iterate 3 refine go_pure0 Tk rfl rfl rfl ?_
   refine go_nil ?_
   refine go_env [(0, _), (1, _), (2, _), (7, _), (8, _), (31, _)] ⟨rfl, rfl, rfl, rfl, rfl, rfl, trivial⟩ ?_
   refine go_condD rfl ?_ ?_
   ·intro cc
    refine go_ol_open (xs := l) (by repeat constructor) (by omega) (fun b cs cur hA h1 h2 h3 h4 h5 => ?_); cases hA
    refine go_fact (rps tFa l cs) (by repeat constructor) (fun _ q => Reps.one q) (fun hone => ?_)
    iterate 4 first | refine go_seq ?_ | refine go_region rfl ?_ | refine go_pure0 Tk rfl rfl rfl ?_
    refine go_val0 rfl (slice_val' Tk rfl rfl rfl rfl 0 k c (.slice (some ⟨b, 0, none⟩) k c) (by first | rfl | exact ⟨_, rfl⟩ | exact ⟨rfl, rfl⟩) (by first | rfl | exact ⟨_, rfl⟩ | exact ⟨rfl, rfl⟩) (by first | rfl | exact ⟨_, rfl⟩ | exact ⟨rfl, rfl⟩) (by omega) (by omega) (by omega) (by rw [sub0]; rfl)) rfl ?_
    iterate 3 refine go_pure0 Tk rfl rfl rfl ?_
    refine go_i64 37 rfl (by omega) (by omega) ?_
    iterate 2 refine go_pure0 Tk rfl rfl rfl ?_
    refine go_i64 39 rfl (by omega) (by omega) ?_
    refine go_re 39 (.int .i64 ((l.length + 1 - k : Nat) : Int)) (by show some (Value.int _ _) = some (Value.int _ _); congr 2; omega) ?_
    refine go_append_zeros (m := l.length + 1 - k) (old := cs.take (k * tFa.size)) Tk rfl rfl rfl rfl rfl rfl rfl rfl rfl rfl (at_head (b := b) (cur := cur) (by repeat constructor) h2 (by rw [h5]; exact Nat.mul_le_mul_right _ hk) rfl) (by omega) (by omega) (by omega) rfl (fun h => nomatch h) ?_
    intro b2 c2 cur2 g1 g2 g3 g4
    rw [show k + (l.length + 1 - k) = l.length + 1 from by omega]
    have hins := ins_cells (v := [Value.int IntKind.u32 q.p, Value.slice QA q.a.length qc]) h5 rfl g1 g2 hk (by omega) (0 + k * tFa.size) (0 + (k + 1) * tFa.size) (Nat.zero_add _) (Nat.zero_add _)
    refine go_pure0 Tk rfl rfl rfl ?_
    refine go_nil ?_
    refine go_env [(0, _), (1, _), (2, _), (7, _), (9, _)] ⟨rfl, rfl, rfl, rfl, rfl, trivial⟩ ?_
    iterate 4 first | refine go_seq ?_ | refine go_region rfl ?_ | refine go_pure0 Tk rfl rfl rfl ?_
    refine go_val0 rfl (slice_val' Tk rfl rfl rfl rfl k (l.length + 1) c2 (.slice (some ⟨b2, 0 + k * tFa.size, none⟩) (l.length + 1 - k) (c2 - k)) (by first | rfl | exact ⟨_, rfl⟩ | exact ⟨rfl, rfl⟩) (by first | rfl | exact ⟨_, rfl⟩ | exact ⟨rfl, rfl⟩) (by first | rfl | exact ⟨_, rfl⟩ | exact ⟨rfl, rfl⟩) (by omega) (by omega) (by omega) (by rw [subN (by omega)]; rfl)) rfl ?_
    refine go_pure0 Tk rfl rfl rfl ?_
    refine go_copy (b := b2) (news := [Value.int IntKind.u32 q.p, Value.slice QA q.a.length qc]) Tk rfl rfl rfl rfl rfl rfl rfl (by repeat constructor) 1 (by show Nat.min 1 _ = 1; exact Nat.min_eq_left (by omega)) (at_pt (b := bv) (by repeat constructor) rfl) rfl hins.2.2.1 (fun h => nomatch h) ?_
    refine go_nil ?_
    refine go_env [(0, _), (1, _), (7, _), (9, _)] ⟨rfl, rfl, rfl, rfl, trivial⟩ ?_
    refine go_seq ?_
    refine go_draw'  [] (SL.pre [(1, 0), (1, 1), (1, 2), (1, 3), (1, 4), (1, 5), (1, 6), (1, 7), (0, 8)] .nil) mixed rfl (by kernel_rfl) ?_
    iterate 4 refine go_pure1 Tk rfl rfl rfl ?_
    refine go_i64 49 rfl (by omega) (by omega) ?_
    refine go_val1 rfl (slice_val' Tk rfl rfl rfl rfl (k + 1) (l.length + 1) c2 (.slice (some ⟨b2, 0 + (k + 1) * tFa.size, none⟩) (l.length + 1 - (k + 1)) (c2 - (k + 1))) (by first | rfl | exact ⟨_, rfl⟩ | exact ⟨rfl, rfl⟩) (by first | rfl | exact ⟨_, rfl⟩ | exact ⟨rfl, rfl⟩) (by first | rfl | exact ⟨_, rfl⟩ | exact ⟨rfl, rfl⟩) (by omega) (by omega) (by omega) (by rw [subN (by omega)]; rfl)) rfl ?_
    iterate 2 refine go_pure1 Tk rfl rfl rfl ?_
    refine go_val1 rfl (slice_val' Tk rfl rfl rfl rfl k l.length c (.slice (some ⟨b, 0 + k * tFa.size, none⟩) (l.length - k) (c - k)) (by first | rfl | exact ⟨_, rfl⟩ | exact ⟨rfl, rfl⟩) (by first | rfl | exact ⟨_, rfl⟩ | exact ⟨rfl, rfl⟩) (by first | rfl | exact ⟨_, rfl⟩ | exact ⟨rfl, rfl⟩) (by omega) (by omega) (by omega) (by rw [subN (by omega)]; rfl)) rfl ?_
    refine go_copy (b := b2) (b2 := b) (news := cs.drop (k * tFa.size)) Tk rfl rfl rfl rfl rfl rfl rfl (by repeat constructor) (l.length - k) (by show Nat.min _ _ = _; exact Nat.min_eq_left (by omega)) (at_any (b := b) (e := 41) (cur := cur) (by repeat constructor) (by rw [List.length_drop, h5, Nat.sub_mul]; rfl) (cut_news h2 _ (.inr (Nat.zero_add _)))) (oneCells_drop _ hone) hins.2.2.2 (fun h => nomatch h) ?_
    refine go_ent (rps tFa (l.take k ++ q :: l.drop k) (cs.take (k * tFa.size) ++ ([Value.int IntKind.u32 q.p, Value.slice QA q.a.length qc] ++ cs.drop (k * tFa.size)))) (fun hh a => Reps.ins (a (rps tFa l cs) (by repeat constructor)) (tFa_mk (a (sl tU QA qc q.a) (by repeat constructor))) hk) ?_
    have hlen : (l.take k ++ q :: l.drop k).length = l.length + 1 := by simp; omega
    refine go_ol_close (l.take k ++ q :: l.drop k) (by repeat constructor) (by repeat constructor) hins.2.1 (by rw [hlen]; exact hins.1) (by omega) (by assumption) ?_
    rw [show l.length + 1 = (l.take k ++ q :: l.drop k).length from hlen.symm]
    refine go_nil ?_
    refine go_env [(9, _)] ⟨rfl, trivial⟩ ?_
    iterate 4 first | refine go_seq ?_ | refine go_region rfl ?_ | refine go_pure0 Tk rfl rfl rfl ?_
    refine go_nil ?_
    refine go_env [(6, _)] ⟨rfl, trivial⟩ ?_
    refine go_ret ⟨rfl, rfl⟩ _ _ (res1 (by rfl) (.tmp rfl)) ⟨_, c2, rfl, rfl, rfl⟩ (by repeat constructor) (by repeat constructor)
   ·intro cc
    refine go_ol_open (xs := l) (by repeat constructor) (by omega) (fun b cs cur hA h1 h2 h3 h4 h5 => ?_); cases hA
    refine go_fact (rps tFa l cs) (by repeat constructor) (fun _ q => Reps.one q) (fun hone => ?_)
    iterate 7 first | refine go_skip ?_ | refine go_seq ?_ | refine go_region rfl ?_ | refine go_pure0 Tk rfl rfl rfl ?_
    refine go_i64 59 rfl (by omega) (by omega) ?_
    refine go_val0 rfl (slice_val' Tk rfl rfl rfl rfl 0 (l.length + 1) c (.slice (some ⟨b, 0, none⟩) (l.length + 1) c) (by first | rfl | exact ⟨_, rfl⟩ | exact ⟨rfl, rfl⟩) (by first | rfl | exact ⟨_, rfl⟩ | exact ⟨rfl, rfl⟩) (by first | rfl | exact ⟨_, rfl⟩ | exact ⟨rfl, rfl⟩) (by omega) (by omega) (by omega) (by rw [sub0]; rfl)) rfl ?_
    refine go_pure0 Tk rfl rfl rfl ?_
    refine go_nil ?_
    refine go_env [(0, _), (1, _), (2, _), (7, _), (8, _)] ⟨rfl, rfl, rfl, rfl, rfl, trivial⟩ ?_
    iterate 8 first | refine go_seq ?_ | refine go_region rfl ?_ | refine go_pure0 Tk rfl rfl rfl ?_
    refine go_i64 65 rfl (by omega) (by omega) ?_
    refine go_val0 rfl (slice_val' Tk rfl rfl rfl rfl (k + 1) (l.length + 1) c (.slice (some ⟨b, 0 + (k + 1) * tFa.size, none⟩) (l.length + 1 - (k + 1)) (c - (k + 1))) (by first | rfl | exact ⟨_, rfl⟩ | exact ⟨rfl, rfl⟩) (by first | rfl | exact ⟨_, rfl⟩ | exact ⟨rfl, rfl⟩) (by first | rfl | exact ⟨_, rfl⟩ | exact ⟨rfl, rfl⟩) (by omega) (by omega) (by omega) (by rw [subN (by omega)]; rfl)) rfl ?_
    refine go_val0 rfl (ext_val Try.func65 (by kernel_rfl) (by kernel_rfl) (by kernel_rfl) (e := Extern.SlicesOverlaps.overlaps #[29, 29] #[4]) (by kernel_rfl) rfl (by rfl) (apart_run Tk (tS := 29) rfl rfl (ba := bv) (bb := b) (by repeat constructor) (by repeat constructor) (fun e => by rw [e, List.length_nil] at h1; have := Nat.mul_pos (show 0 < c by omega) (show 0 < tFa.size by decide); omega))) rfl ?_
    refine go_pure0 Tk rfl rfl rfl ?_
    refine go_nil ?_
    refine go_env [(0, _), (1, _), (2, _), (7, _), (8, _), (68, _)] ⟨rfl, rfl, rfl, rfl, rfl, rfl, trivial⟩ ?_
    refine go_cond_t rfl ?_
    refine go_seq ?_
    have hins := ins_cells2 (v := [Value.int IntKind.u32 q.p, Value.slice QA q.a.length qc]) h5 rfl h1 h2 hk (by omega) (0 + k * tFa.size) (0 + (k + 1) * tFa.size) (Nat.zero_add _) (Nat.zero_add _)
    refine go_draw'  [] (SL.pre [(1, 0), (1, 1), (1, 2), (1, 3), (1, 4), (1, 5), (1, 6), (1, 7), (0, 8)] .nil) mixed rfl (by kernel_rfl) ?_
    iterate 4 refine go_pure1 Tk rfl rfl rfl ?_
    refine go_i64 72 rfl (by omega) (by omega) ?_
    refine go_val1 rfl (slice_val' Tk rfl rfl rfl rfl (k + 1) (l.length + 1) c (.slice (some ⟨b, 0 + (k + 1) * tFa.size, none⟩) (l.length + 1 - (k + 1)) (c - (k + 1))) (by first | rfl | exact ⟨_, rfl⟩ | exact ⟨rfl, rfl⟩) (by first | rfl | exact ⟨_, rfl⟩ | exact ⟨rfl, rfl⟩) (by first | rfl | exact ⟨_, rfl⟩ | exact ⟨rfl, rfl⟩) (by omega) (by omega) (by omega) (by rw [subN (by omega)]; rfl)) rfl ?_
    iterate 2 refine go_pure1 Tk rfl rfl rfl ?_
    refine go_val1 rfl (slice_val' Tk rfl rfl rfl rfl k (l.length + 1) c (.slice (some ⟨b, 0 + k * tFa.size, none⟩) (l.length + 1 - k) (c - k)) (by first | rfl | exact ⟨_, rfl⟩ | exact ⟨rfl, rfl⟩) (by first | rfl | exact ⟨_, rfl⟩ | exact ⟨rfl, rfl⟩) (by first | rfl | exact ⟨_, rfl⟩ | exact ⟨rfl, rfl⟩) (by omega) (by omega) (by omega) (by rw [subN (by omega)]; rfl)) rfl ?_
    refine go_copy (b := b) (b2 := b) (news := cs.drop (k * tFa.size)) Tk rfl rfl rfl rfl rfl rfl rfl (by repeat constructor) (l.length - k) (by show Nat.min _ _ = _; rw [show l.length + 1 - (k + 1) = l.length - k from by omega]; exact Nat.min_eq_right (by omega)) (at_any (b := b) (e := 41) (cur := cur) (by repeat constructor) (by rw [List.length_drop, h5, Nat.sub_mul]; rfl) (cut_news h2 _ (.inr (Nat.zero_add _)))) (oneCells_drop _ hone) hins.2.2.1 (fun h => nomatch h) ?_
    refine go_nil ?_
    refine go_env [(0, _), (1, _), (2, _)] ⟨rfl, rfl, rfl, trivial⟩ ?_
    iterate 4 first | refine go_seq ?_ | refine go_region rfl ?_ | refine go_pure0 Tk rfl rfl rfl ?_
    refine go_val0 rfl (slice_val' Tk rfl rfl rfl rfl k (l.length + 1) c (.slice (some ⟨b, 0 + k * tFa.size, none⟩) (l.length + 1 - k) (c - k)) (by first | rfl | exact ⟨_, rfl⟩ | exact ⟨rfl, rfl⟩) (by first | rfl | exact ⟨_, rfl⟩ | exact ⟨rfl, rfl⟩) (by first | rfl | exact ⟨_, rfl⟩ | exact ⟨rfl, rfl⟩) (by omega) (by omega) (by omega) (by rw [subN (by omega)]; rfl)) rfl ?_
    refine go_pure0 Tk rfl rfl rfl ?_
    refine go_copy (b := b) (news := [Value.int IntKind.u32 q.p, Value.slice QA q.a.length qc]) Tk rfl rfl rfl rfl rfl rfl rfl (by repeat constructor) 1 (by show Nat.min 1 _ = 1; exact Nat.min_eq_left (by omega)) (at_pt (b := bv) (by repeat constructor) rfl) rfl hins.2.2.2 (fun h => nomatch h) ?_
    refine go_ent (rps tFa (l.take k ++ q :: l.drop k) (cs.take (k * tFa.size) ++ ([Value.int IntKind.u32 q.p, Value.slice QA q.a.length qc] ++ cs.drop (k * tFa.size)))) (fun hh a => Reps.ins (a (rps tFa l cs) (by repeat constructor)) (tFa_mk (a (sl tU QA qc q.a) (by repeat constructor))) hk) ?_
    have hlen : (l.take k ++ q :: l.drop k).length = l.length + 1 := by simp; omega
    refine go_ol_close (l.take k ++ q :: l.drop k) (by repeat constructor) (by repeat constructor) hins.2.1 (by rw [hlen]; exact hins.1) (by omega) (by assumption) ?_
    rw [show l.length + 1 = (l.take k ++ q :: l.drop k).length from hlen.symm]
    refine go_nil ?_
    refine go_env [(0, _)] ⟨rfl, trivial⟩ ?_
    iterate 4 first | refine go_seq ?_ | refine go_region rfl ?_ | refine go_pure0 Tk rfl rfl rfl ?_
    refine go_nil ?_
    refine go_env [(6, _)] ⟨rfl, trivial⟩ ?_
    refine go_ret ⟨rfl, rfl⟩ _ _ (res1 (by rfl) (.tmp rfl)) ⟨_, c, rfl, rfl, rfl⟩ (by repeat constructor) (by repeat constructor)

end Go.Proofs.Ytkhddfknpegpmaa.SL

/- Contracts of functions of the program (Relput): what each call comes to, for the laws' proofs. -/
set_option linter.unusedVariables false
set_option linter.unusedSimpArgs false
namespace Go.Proofs.Ytkhddfknpegpmaa.SL
open Go 

set_option maxHeartbeats 2000000 in
set_option maxRecDepth 20000 in
theorem relPut (b : Nat) (l : List Fa) (q : Fa) (QA : Option Addr) (qc : Nat) (hr : rises l) (hn : l.length ≤ 50000000) (hm : q.a.length ≤ 100000) :
    Spec Try.prog 34 #[.pointer (some ⟨b, 0, none⟩), .agg #[.int .u32 q.p, .slice QA q.a.length qc]] [sl tU QA qc q.a] [relO b l] (fun v Ps' Os' => v = .bool (!decide (q ∈ l)) ∧ Ps' = [] ∧ Os' = [relO b (fput l q)]) := by
 refine spec_of (fn := Try.f34) (args := [.pointer (some ⟨b, 0, none⟩), .agg #[.int .u32 q.p, .slice QA q.a.length qc]]) 30 Try.func34 rfl (by kernel_rfl) Try.ntmps34 (Nat.le_of_ble_eq_true rfl) (fun w0 hp0 hf0 => ?_)
 refine go_seq ?_
 refine go_region rfl ?_
 refine go_box Tk rfl rfl rfl rfl (by rfl) rfl rfl (fun h => nomatch h) ?_
 intro b1
 refine go_pure0 Tk rfl rfl rfl ?_
 refine go_nil ?_
 refine go_env [(0, _), (3, _)] ⟨rfl, rfl, trivial⟩ ?_
 refine go_seq ?_
 refine go_region rfl ?_
 refine go_pure0 Tk rfl rfl rfl ?_
 refine go_val0 rfl (ldv Tk rfl rfl rfl) rfl ?_
 refine go_call (relPlace b l q QA qc hr hn) rfl rfl (by rfl) rfl (by repeat constructor) (by repeat constructor) (fun h => nomatch h) ?_
 rintro _ _ _ ⟨rfl, rfl, rfl⟩
 iterate 5 refine go_pure0 Tk rfl rfl rfl ?_
 refine go_nil ?_
 refine go_env [(0, _), (3, _), (5, _), (6, _)] ⟨rfl, rfl, rfl, rfl, trivial⟩ ?_
 iterate 5 first | refine go_seq ?_ | refine go_region rfl ?_ | refine go_pure0 Tk rfl rfl rfl ?_
 refine go_known 14 rfl ?_ ?_
 ·intro g1
  (try simp only [decide_eq_true_eq, decide_eq_false_iff_not, Bool.not_eq_true', Bool.not_eq_false', Bool.not_eq_eq_eq_not, Bool.not_true, Bool.not_false, Int.not_lt, Int.not_le, beq_iff_eq, beq_eq_false_iff_ne, ne_eq] at g1)
  iterate 3 first | refine go_skip0 rfl rfl ?_ | refine go_pure0 Tk rfl rfl rfl ?_
  refine go_nil ?_
  refine go_env [(0, _), (3, _), (5, _), (17, _)] ⟨rfl, rfl, rfl, rfl, trivial⟩ ?_
  refine go_cond_t rfl ?_
  refine go_seq ?_
  refine go_region rfl ?_
  refine go_pure0 Tk rfl rfl rfl ?_
  refine go_nil ?_
  refine go_env [(4, _)] ⟨rfl, trivial⟩ ?_
  refine go_ret ⟨rfl, rfl⟩ _ _ (res1 (by rfl) (.tmp rfl)) ⟨by rw [decide_eq_true (by simpa using g1)]; rfl, rfl, by rw [fput_yes (by simpa using g1)]⟩ (by repeat constructor) (by repeat constructor)
 ·intro g1
  (try simp only [decide_eq_true_eq, decide_eq_false_iff_not, Bool.not_eq_true', Bool.not_eq_false', Bool.not_eq_eq_eq_not, Bool.not_true, Bool.not_false, Int.not_lt, Int.not_le, beq_iff_eq, beq_eq_false_iff_ne, ne_eq] at g1)
  iterate 3 refine go_pure0 Tk rfl rfl rfl ?_
  refine go_nil ?_
  refine go_env [(0, _), (3, _), (5, _), (17, _)] ⟨rfl, rfl, rfl, rfl, trivial⟩ ?_
  refine go_cond_f rfl ?_
  refine go_skip ?_
  refine go_seq ?_
  refine go_rel (b := b) (by repeat constructor) (fun A1 c1 => ?_)
  refine go_draw'  [4, 6] (SL.pre [(1, 0), (1, 1), (1, 2), (1, 3), (1, 5), (2, 4), (2, 6), (0, 7), (0, 8), (0, 9), (1, 10), (1, 11), (0, 12)] .nil) mixed rfl (by kernel_rfl) ?_
  iterate 7 first | refine go_pure1 Tk rfl rfl rfl ?_ | refine go_val2a rfl (ldv Tk rfl rfl rfl) rfl ?_
  refine go_call (relCopied q QA qc hm) rfl rfl (by rfl) rfl (by repeat constructor) (by repeat constructor) (fun _ v Ps' Os' hq => by obtain ⟨A', c', rfl, rfl, rfl⟩ := hq; exact satS (by repeat constructor) (by repeat constructor)) ?_
  rintro _ _ _ ⟨A', c', rfl, rfl, rfl⟩
  refine go_freeze_ol (A := A') (xs := q.a) (by repeat constructor) ?_
  refine go_bslice Tk rfl rfl rfl rfl rfl rfl rfl rfl (fun _ _ => satA) ?_
  intro bv
  refine go_call (insertFa A1 c1 l (at_ l q) bv q A' c' (at_le l q) hn) rfl rfl (by rfl) rfl (by repeat constructor) (by repeat constructor) (fun h => nomatch h) ?_
  rintro _ _ _ ⟨A2, c2, rfl, rfl, rfl⟩
  iterate 2 refine go_pure1 Tk rfl rfl rfl ?_
  refine go_store Tk rfl rfl rfl rfl rfl rfl (by repeat constructor) rfl rfl (by rfl) (fun h => nomatch h) ?_
  refine go_nil ?_
  rw [← fput_no (by simpa using g1)]
  refine go_fold [pt b 81 [.slice A2 (fput l q).length c2], ol tFa 41 A2 c2 (fput l q)] (relO b (fput l q)) (by repeat constructor) (fun _ _ q => relO_mk q) ?_
  refine go_env [] trivial ?_
  refine go_seq ?_
  refine go_region rfl ?_
  refine go_pure0 Tk rfl rfl rfl ?_
  refine go_nil ?_
  refine go_env [(4, _)] ⟨rfl, trivial⟩ ?_
  refine go_ret ⟨rfl, rfl⟩ _ _ (res1 (by rfl) (.tmp rfl)) ⟨by rw [decide_eq_false (by simpa using g1)]; rfl, rfl, rfl⟩ (by repeat constructor) (by repeat constructor)

end Go.Proofs.Ytkhddfknpegpmaa.SL

/- What a set is after a fact was put or cut. -/
set_option linter.unusedVariables false
set_option linter.unusedSimpArgs false
namespace Go.Proofs.Ytkhddfknpegpmaa.SL
theorem take_while {α : Type} {p : α → Bool} : ∀ (l : List α), ∀ x ∈ l.take (l.takeWhile p).length, p x = true
  | [], x, h => by simp at h
  | y :: l, x, h => by
    rw [List.takeWhile_cons] at h
    by_cases hy : p y = true
    · rw [if_pos hy, List.length_cons, List.take_succ_cons] at h
      rcases List.mem_cons.1 h with rfl | h
      · exact hy
      · exact take_while l x h
    · rw [if_neg hy] at h
      simp at h
theorem at_low {l : List Fa} (q : Fa) : ∀ x ∈ l.take (at_ l q), cF x q < 0 := fun x hx => by
  have := take_while (p := fun x => decide (cF x q < 0)) l x hx
  simpa using this
theorem at_high {l : List Fa} (h : rises l) (q : Fa) : ∀ x ∈ l.drop (at_ l q), ¬ cF x q < 0 := by
  rcases Nat.lt_or_ge (at_ l q) l.length with hl | hl
  · refine rises_drop h hl ?_
    intro c
    have h1 := rises_take h hl c
    have : at_ l q + 1 ≤ (l.takeWhile fun x => decide (cF x q < 0)).length := by
      have e : l.takeWhile (fun x => decide (cF x q < 0)) = l.take (at_ l q + 1) ++ (l.drop (at_ l q + 1)).takeWhile (fun x => decide (cF x q < 0)) := by
        conv => lhs; rw [← List.take_append_drop (at_ l q + 1) l]
        rw [List.takeWhile_append_of_pos (fun x hx => by simpa using h1 x hx)]
      rw [e, List.length_append, List.length_take]
      omega
    unfold at_ at this
    omega
  · rw [List.drop_of_length_le hl]
    intro x hx; cases hx
theorem rises_fput {l : List Fa} (h : rises l) (q : Fa) : rises (fput l q) := by
  by_cases hm : q ∈ l
  · rw [fput_yes hm]; exact h
  · rw [fput_no hm]
    unfold rises at h ⊢
    have hs := h
    rw [← List.take_append_drop (at_ l q) l, List.pairwise_append] at hs
    rw [List.pairwise_append, List.pairwise_cons]
    have hi : ∀ x ∈ l.drop (at_ l q), cF q x < 0 := fun x hx => by
      have h1 := at_high h q x hx
      have h2 : cF x q ≠ 0 := fun e => hm (by rw [← cF_zero.1 e]; exact List.mem_of_mem_drop hx)
      rw [cF_swap]
      omega
    refine ⟨hs.1, ⟨hi, hs.2.1⟩, fun x hx y hy => ?_⟩
    rcases List.mem_cons.1 hy with rfl | hy
    · exact at_low _ x hx
    · exact hs.2.2 x hx y hy
theorem mem_fput {l : List Fa} {q x : Fa} : x ∈ fput l q ↔ x = q ∨ x ∈ l := by
  by_cases hm : q ∈ l
  · rw [fput_yes hm]
    constructor
    · exact .inr
    · rintro (rfl | h)
      · exact hm
      · exact h
  · rw [fput_no hm]
    conv => rhs; rw [← List.take_append_drop (at_ l q) l]
    simp only [List.mem_append, List.mem_cons]
    constructor
    · rintro (h | h | h)
      · exact .inr (.inl h)
      · exact .inl h
      · exact .inr (.inr h)
    · rintro (h | h | h)
      · exact .inr (.inl h)
      · exact .inl h
      · exact .inr (.inr h)
theorem fput_len (l : List Fa) (q : Fa) : (fput l q).length ≤ l.length + 1 := by
  unfold fput; split
  · omega
  · simp; omega
/-- Two sets of the same facts are the same. -/
theorem rises_ext : ∀ {a b : List Fa}, rises a → rises b → (∀ x, x ∈ a ↔ x ∈ b) → a = b
  | [], [], _, _, _ => rfl
  | [], y :: b, _, _, h => by have := (h y).2 (.head _); cases this
  | x :: a, [], _, _, h => by have := (h x).1 (.head _); cases this
  | x :: a, y :: b, ha, hb, h => by
    unfold rises at ha hb
    rw [List.pairwise_cons] at ha hb
    have irr : ∀ z : Fa, ¬ cF z z < 0 := fun z => by rw [cF_zero.2 rfl]; omega
    have hxy : x = y := by
      rcases List.mem_cons.1 ((h x).1 (.head _)) with e | h1
      · exact e
      · rcases List.mem_cons.1 ((h y).2 (.head _)) with e | h2
        · exact e.symm
        · exact absurd (cF_trans (ha.1 y h2) (hb.1 x h1)) (irr x)
    subst hxy
    rw [rises_ext ha.2 hb.2 fun z => ?_]
    constructor
    · intro hz
      rcases List.mem_cons.1 ((h z).1 (.tail _ hz)) with e | h1
      · subst e; exact absurd (ha.1 z hz) (irr z)
      · exact h1
    · intro hz
      rcases List.mem_cons.1 ((h z).2 (.tail _ hz)) with e | h1
      · subst e; exact absurd (hb.1 z hz) (irr z)
      · exact h1
section
variable {C : Ctx} {k : List It} {E : Env} {Ps : List PA} {Os : List OA}
/-- A fact of one's own through and through. -/
theorem go_vo_fa {e : Nat} {A : Option Addr} {c : Nat} (x : Fa) {rr : List OA} (h : Rem (ol tU e A c x.a) Os rr) (g : Go C k E Ps (vo tFa x [.int .u32 x.p, .slice A x.a.length c] :: rr)) : Go C k E Ps Os :=
  go_imp _ [vo tFa x [.int .u32 x.p, .slice A x.a.length c]] h (fun hp h1 ⟨cs, r, s⟩ => sep_one (by
    obtain ⟨q1, q2, q3, q4⟩ := r
    rcases q4 with q | ⟨b, cur, e1, e2, e3, e4⟩
    · exact ⟨Heap.nil, Heap.nil_le _, Wr.nil, tFa_mk (sl_of_row (e := e) (h1 := Heap.nil) ⟨q1, q2, q3, .inl q⟩ (Heap.le_refl _) (Reps.flat tU_flat s))⟩
    · exact ⟨Heap.one b (.cells cur e (0, 0)), Heap.one_le e2, Wr.one, tFa_mk (sl_of_row (e := e) (h1 := Heap.one b (.cells cur e (0, 0))) ⟨q1, q2, q3, .inr ⟨b, cur, e1, by simp [Heap.one], e3, e4⟩⟩ (Heap.le_refl _) (Reps.flat tU_flat s))⟩)) g
end
/-- The set of some facts. -/
noncomputable def fof (l : List Fa) : List Fa := l.foldl fput []
theorem fof_next {l : List Fa} {k : Nat} (hk : k < l.length) : fof (l.take (k + 1)) = fput (fof (l.take k)) l[k] := by
  unfold fof
  rw [List.take_succ_eq_append_getElem hk, List.foldl_append]; rfl
theorem foldl_rises : ∀ (l s : List Fa), rises s → rises (l.foldl fput s)
  | [], _, h => h
  | x :: l, s, h => foldl_rises l _ (rises_fput h x)
theorem rises_fof (l : List Fa) : rises (fof l) := foldl_rises l [] .nil
theorem foldl_mem : ∀ (l s : List Fa) (x : Fa), x ∈ l.foldl fput s ↔ x ∈ s ∨ x ∈ l
  | [], s, x => by simp
  | y :: l, s, x => by
    rw [List.foldl_cons, foldl_mem l, mem_fput, List.mem_cons]
    constructor
    · rintro ((h | h) | h)
      · exact .inr (.inl h)
      · exact .inl h
      · exact .inr (.inr h)
    · rintro (h | h | h)
      · exact .inl (.inr h)
      · exact .inl (.inl h)
      · exact .inr h
theorem mem_fof {l : List Fa} {x : Fa} : x ∈ fof l ↔ x ∈ l := by simp [fof, foldl_mem]
theorem foldl_flen : ∀ (l s : List Fa), (l.foldl fput s).length ≤ s.length + l.length
  | [], s => by simp
  | y :: l, s => by
    have h1 := foldl_flen l (fput s y)
    have h2 := fput_len s y
    rw [List.foldl_cons, List.length_cons]
    omega
theorem fof_len (l : List Fa) : (fof l).length ≤ l.length := by have := foldl_flen l []; simpa [fof] using this
theorem filt_all {α : Type} (l : List α) : l.filter (fun _ => true) = l := by simp
theorem rises_filter {l : List Fa} (h : rises l) (p : Fa → Bool) : rises (l.filter p) := List.Pairwise.sublist List.filter_sublist h
theorem rises_nil : rises [] := .nil
/-- What is in one and not in another. -/
noncomputable def less (a b : List Fa) : List Fa := a.filter (fun x => !decide (x ∈ b))
end Go.Proofs.Ytkhddfknpegpmaa.SL

/- Contracts of functions of the program (Relp): what each call comes to, for the laws' proofs. -/
set_option linter.unusedVariables false
set_option linter.unusedSimpArgs false
namespace Go.Proofs.Ytkhddfknpegpmaa.SL
open Go 

/-- A set of facts that is read. -/
def relP (b : Nat) (l : List Fa) : PA := ⟨fun h => ∃ (A : Option Addr) (c : Nat), (cl b 0 [.slice A l.length c]).p h ∧ Sl tFa h A c l, fun hl ⟨A, c, h1, h2⟩ => ⟨A, c, PA.up _ hl h1, h2.up hl⟩⟩
theorem go_relP {C : Ctx} {k : List It} {E : Env} {Ps : List PA} {Os : List OA} {b : Nat} {l : List Fa} (h : relP b l ∈ Ps) (g : ∀ (A : Option Addr) (c : Nat), Go C k E (cl b 0 [.slice A l.length c] :: sl tFa A c l :: Ps) Os) : Go C k E Ps Os := fun a w hp ho hf hs hb => by
  obtain ⟨A, c, h1, h2⟩ := hs.ps _ h
  exact g A c a w hp ho hf ((hs.addp (q := sl tFa A c l) h2).addp h1) hb
theorem pt_cl {b ty : Nat} {cs : List Value} {hp h H : Heap} (hl : h.le H) (q : (pt b ty cs).p hp h) : (cl b 0 cs).p H := fun j v hj => by
  have q' : h b = some (.cells cs.toArray ty (0, 0)) := q
  refine cellH_le hl ?_
  simp only [cellH, q', Nat.zero_add]
  simpa using hj
theorem lend_rel {b : Nat} {l : List Fa} : ∀ (hp h1 H : Heap), hp.le H → h1.le H → (relO b l).p hp h1 → (relP b l).p H := fun hp h1 H l1 l2 ⟨A, c, q⟩ => by
  obtain ⟨g1, g2, x1, x2, _, d1, g3, g4, y1, _, _, ⟨cs, r, s⟩, _⟩ := (show Sep hp [pt b 81 [.slice A (l).length c], ol tFa 41 A c (l)] h1 from q)
  exact ⟨A, c, pt_cl (x1.tr l2) d1, sl_of_row r (y1.tr (x2.tr l2)) (s.up l1)⟩
theorem go_freeze_rel {C : Ctx} {k : List It} {E : Env} {Ps : List PA} {Os rr : List OA} {b : Nat} {l : List Fa} (h : Rem (relO b l) Os rr) (g : Go C k E (relP b l :: Ps) rr) : Go C k E Ps Os := go_freeze _ (relP b l) h lend_rel g
/-- A contract that only reads a set, where the set is one's own. -/
theorem Spec.own {P : Program} {f : FuncId} {args : Array Value} {b : Nat} {l : List Fa} {Ps : List PA} {Q : Value → Prop} (s : Spec P f args (relP b l :: Ps) [] (fun v Ps' Os' => Q v ∧ Ps' = [] ∧ Os' = [])) : Spec P f args Ps [relO b l] (fun v Ps' Os' => Q v ∧ Ps' = [] ∧ Os' = [relO b l]) :=
  (s.lend (relO b l) lend_rel (fun v P' O' h => ⟨h.2.1, by rw [h.2.2]; intro B hB; cases hB⟩)).imp fun v P' O' ⟨O2, ⟨h1, _, h3⟩, h4, h5⟩ => ⟨h1, h4, by rw [h5, h3]⟩

set_option maxHeartbeats 2000000 in
set_option maxRecDepth 20000 in
theorem binSearchP (A : Option Addr) (c : Nat) (l : List Fa) (q : Fa) (QA : Option Addr) (qc : Nat) (hr : rises l) (hn : l.length ≤ 50000000) :
    Spec Try.prog 63 #[.slice A l.length c, .agg #[.int .u32 q.p, .slice QA q.a.length qc], .func (.func 64) #[] #[]] [sl tFa A c l, sl tU QA qc q.a] [] (fun v Ps' Os' => v = .tuple #[.int .i64 (at_ l q : Int), .bool (decide (q ∈ l))] ∧ Ps' = [] ∧ Os' = []) := by
 refine spec_of (fn := Try.f63) (args := [.slice A l.length c, .agg #[.int .u32 q.p, .slice QA q.a.length qc], .func (.func 64) #[] #[]]) 49 Try.func63 rfl (by kernel_rfl) Try.ntmps63 (Nat.le_of_ble_eq_true rfl) (fun w0 hp0 hf0 => ?_)
 refine go_seq ?_
 refine go_region rfl ?_
 refine go_box Tk rfl rfl rfl rfl (by rfl) rfl rfl (fun h => nomatch h) ?_
 intro b1
 iterate 2 refine go_pure0 Tk rfl rfl rfl ?_
 refine go_nil ?_
 refine go_env [(0, _), (2, _), (4, _)] ⟨rfl, rfl, rfl, trivial⟩ ?_
 iterate 5 first | refine go_seq ?_ | refine go_region rfl ?_ | refine go_pure0 Tk rfl rfl rfl ?_
 refine go_nil ?_
 refine go_env [(0, _), (2, _), (4, _), (8, _)] ⟨rfl, rfl, rfl, rfl, trivial⟩ ?_
 iterate 5 first | refine go_seq ?_ | refine go_region rfl ?_ | refine go_pure0 Tk rfl rfl rfl ?_
 refine go_nil ?_
 refine go_env [(0, _), (2, _), (4, _), (8, _), (9, _), (10, _)] ⟨rfl, rfl, rfl, rfl, rfl, rfl, trivial⟩ ?_
 refine go_seq ?_
 refine go_block ?_
 refine go_loop' (X := Nat × Nat) (fun x => [(9, .int .i64 (x.1 : Int)), (10, .int .i64 (x.2 : Int))]) [(0, _), (2, _), (4, _), (8, _)] (fun _ => []) (fun x => x.1 ≤ x.2 ∧ x.2 ≤ l.length ∧ (∀ y ∈ l.take x.1, cF y q < 0) ∧ ∀ y ∈ l.drop x.2, ¬ cF y q < 0) (fun x => x.2 - x.1) ((0, l.length)) ⟨rfl, rfl, rfl, rfl, rfl, rfl, trivial⟩ (by repeat constructor) ⟨by omega, by omega, by simp, by simp⟩ ?_
 intro ⟨i, j⟩ ⟨hij, hj, hlo, hhi⟩
 simp only at hij hj hlo hhi ⊢
 iterate 6 first | refine go_seq ?_ | refine go_region rfl ?_ | refine go_pure0 Tk rfl rfl rfl ?_
 refine go_nil ?_
 refine go_env [(0, _), (2, _), (4, _), (8, _), (9, _), (10, _), (17, _)] ⟨rfl, rfl, rfl, rfl, rfl, rfl, rfl, trivial⟩ ?_
 refine go_condD rfl ?_ ?_
 ·intro c1
  iterate 7 first | refine go_skip ?_ | refine go_block ?_ | refine go_seq ?_ | refine go_region rfl ?_ | refine go_pure0 Tk rfl rfl rfl ?_
  refine go_i64 20 rfl (by omega) (by omega) ?_
  refine go_pure0 Tk rfl rfl rfl ?_
  refine go_re 21 (.int .u64 ((i + j : Nat) : Int)) (by show some (Value.int _ _) = _; rw [wrap_u64 (by omega)]; rfl) ?_
  refine go_pure0 Tk rfl rfl rfl ?_
  refine go_re 22 (.int .u64 (((i + j) / 2 : Nat) : Int)) (by show some (Value.int _ _) = _; rw [← half]) ?_
  refine go_pure0 Tk rfl rfl rfl ?_
  refine go_i64 23 rfl (by omega) (by omega) ?_
  obtain ⟨h, hh⟩ : ∃ h, h = (i + j) / 2 := ⟨_, rfl⟩
  rw [← hh]
  have hih : i ≤ h ∧ h < j := by omega
  refine go_pure0 Tk rfl rfl rfl ?_
  refine go_nil ?_
  refine go_env [(0, _), (2, _), (4, _), (8, _), (9, _), (10, _), (11, _)] ⟨rfl, rfl, rfl, rfl, rfl, rfl, rfl, trivial⟩ ?_
  refine go_seq ?_
  refine go_elem_fa (xs := l) (by repeat constructor) (h) (List.getElem?_eq_getElem (by omega)) (fun b0 o0 A0 c0 hA => ?_); cases hA
  refine go_draw'  [4, 5] (SL.pre [(1, 0), (1, 1), (1, 2), (1, 3), (2, 4), (2, 5), (0, 6), (1, 7)] .nil) mixed rfl (by kernel_rfl) ?_
  iterate 3 refine go_pure1 Tk rfl rfl rfl ?_
  refine go_val1 rfl (idx_val Tk rfl rfl rfl rfl rfl (by omega)) rfl ?_
  iterate 2 refine go_val2a rfl (ldv Tk rfl rfl rfl) rfl ?_
  refine go_call (atomsCompare _ _ _ _ _ _ _ _) rfl rfl (by rfl) rfl (by repeat constructor) (by repeat constructor) (fun h => nomatch h) ?_
  rintro _ _ _ ⟨rfl, rfl, rfl⟩
  refine go_pure1 Tk rfl rfl rfl ?_
  refine go_nil ?_
  refine go_env [(0, _), (2, _), (4, _), (8, _), (9, _), (10, _), (11, _), (31, _)] ⟨rfl, rfl, rfl, rfl, rfl, rfl, rfl, rfl, trivial⟩ ?_
  refine go_condD rfl ?_ ?_
  ·intro c2
   iterate 3 first | refine go_region rfl ?_ | refine go_pure0 Tk rfl rfl rfl ?_
   refine go_i64 33 rfl (by omega) (by omega) ?_
   refine go_pure0 Tk rfl rfl rfl ?_
   refine go_nil ?_
   refine go_env [(0, _), (2, _), (4, _), (8, _), (9, _), (10, _)] ⟨rfl, rfl, rfl, rfl, rfl, rfl, trivial⟩ ?_
   refine go_blk ?_
   refine go_back (h + 1, j) ⟨rfl, rfl, rfl, rfl, rfl, rfl, trivial⟩ (by repeat constructor) (by repeat constructor) ⟨by show h + 1 ≤ j; omega, hj, rises_take hr (by omega) c2, hhi⟩ (by show j - (h + 1) < j - i; omega)
  ·intro c2
   iterate 3 first | refine go_region rfl ?_ | refine go_pure0 Tk rfl rfl rfl ?_
   refine go_nil ?_
   refine go_env [(0, _), (2, _), (4, _), (8, _), (9, _), (10, _)] ⟨rfl, rfl, rfl, rfl, rfl, rfl, trivial⟩ ?_
   refine go_blk ?_
   refine go_back (i, h) ⟨rfl, rfl, rfl, rfl, rfl, rfl, trivial⟩ (by repeat constructor) (by repeat constructor) ⟨by show i ≤ h; omega, by show h ≤ _; omega, hlo, rises_drop hr (by omega) c2⟩ (by show h - i < j - i; omega)
 ·intro c1
  refine go_exit rfl ?_
  refine go_seq ?_
  by_cases hin : i < l.length
  ·skip
   refine go_elem_fa (xs := l) (by repeat constructor) (i) (List.getElem?_eq_getElem (by omega)) (fun b0 o0 A0 c0 hA => ?_); cases hA
   refine go_draw'  [9, 10] (SL.pre [(1, 0), (1, 1), (1, 2), (1, 3), (1, 4), (1, 5), (1, 6), (1, 7), (1, 8), (2, 9), (2, 10), (0, 11), (1, 12), (1, 13), (1, 14), (1, 15)] .nil) mixed rfl (by kernel_rfl) ?_
   iterate 4 refine go_pure1 Tk rfl rfl rfl ?_
   refine go_re 38 (.bool true) (by show some (Value.bool (decide _)) = _; rw [decide_eq_true (by omega)]) ?_
   iterate 4 refine go_pure1 Tk rfl rfl rfl ?_
   refine go_val1 rfl (idx_val Tk rfl rfl rfl rfl rfl (by omega)) rfl ?_
   iterate 2 refine go_val2a rfl (ldv Tk rfl rfl rfl) rfl ?_
   refine go_call (atomsCompare _ _ _ _ _ _ _ _) rfl rfl (by rfl) rfl (by repeat constructor) (by repeat constructor) (fun h => nomatch h) ?_
   rintro _ _ _ ⟨rfl, rfl, rfl⟩
   iterate 4 refine go_pure1 Tk rfl rfl rfl ?_
   refine go_nil ?_
   refine go_env [(6, _), (7, _)] ⟨rfl, rfl, trivial⟩ ?_
   refine go_ret ⟨rfl, rfl⟩ _ _ (res2 (by rfl) (.tmp rfl) (.tmp rfl)) ⟨by rw [bin_yes hr hin (by omega) hlo (by have := hhi; rwa [show j = i from by omega] at this)], rfl, rfl⟩ (by repeat constructor) (by repeat constructor)
  ·skip
   refine go_draw'  [9, 10] (SL.pre [(1, 0), (1, 1), (1, 2), (1, 3), (1, 4), (1, 5), (1, 6), (1, 7), (1, 8), (2, 9), (2, 10), (0, 11), (1, 12), (1, 13), (1, 14), (1, 15)] .nil) mixed rfl (by kernel_rfl) ?_
   iterate 4 refine go_pure1 Tk rfl rfl rfl ?_
   refine go_re 38 (.bool false) (by show some (Value.bool (decide _)) = _; rw [decide_eq_false (by omega)]) ?_
   iterate 5 first | refine go_pure1 Tk rfl rfl rfl ?_ | refine go_skip1 rfl rfl ?_
   refine go_skip2 rfl (by repeat constructor) (by repeat constructor) rfl ?_
   refine go_skip2 rfl (by repeat constructor) (by repeat constructor) rfl ?_
   iterate 5 first | refine go_skip0 rfl rfl ?_ | refine go_skip1 rfl rfl ?_ | refine go_pure1 Tk rfl rfl rfl ?_
   refine go_nil ?_
   refine go_env [(6, _), (7, _)] ⟨rfl, rfl, trivial⟩ ?_
   refine go_ret ⟨rfl, rfl⟩ _ _ (res2 (by rfl) (.tmp rfl) (.tmp rfl)) ⟨by rw [bin_no hr (by omega) hlo], rfl, rfl⟩ (by repeat constructor) (by repeat constructor)

set_option maxHeartbeats 2000000 in
set_option maxRecDepth 20000 in
theorem relPlaceP (b : Nat) (l : List Fa) (q : Fa) (QA : Option Addr) (qc : Nat) (hr : rises l) (hn : l.length ≤ 50000000) :
    Spec Try.prog 53 #[.pointer (some ⟨b, 0, none⟩), .agg #[.int .u32 q.p, .slice QA q.a.length qc]] [relP b l, sl tU QA qc q.a] [] (fun v Ps' Os' => v = .tuple #[.int .i64 (at_ l q : Int), .bool (decide (q ∈ l))] ∧ Ps' = [] ∧ Os' = []) := by
 refine spec_of (fn := Try.f53) (args := [.pointer (some ⟨b, 0, none⟩), .agg #[.int .u32 q.p, .slice QA q.a.length qc]]) 16 Try.func53 rfl (by kernel_rfl) Try.ntmps53 (Nat.le_of_ble_eq_true rfl) (fun w0 hp0 hf0 => ?_)
 refine go_seq ?_
 refine go_region rfl ?_
 refine go_box Tk rfl rfl rfl rfl (by rfl) rfl rfl (fun h => nomatch h) ?_
 intro b1
 iterate 2 refine go_pure0 Tk rfl rfl rfl ?_
 refine go_nil ?_
 refine go_env [(0, _), (3, _)] ⟨rfl, rfl, trivial⟩ ?_
 iterate 5 first | refine go_seq ?_ | refine go_region rfl ?_ | refine go_pure0 Tk rfl rfl rfl ?_
 refine go_nil ?_
 refine go_env [(0, _), (3, _), (7, _)] ⟨rfl, rfl, rfl, trivial⟩ ?_
 refine go_cond_f rfl ?_
 refine go_skip ?_
 refine go_seq ?_
 refine go_relP (b := b) (by repeat constructor) (fun A1 c1 => ?_)
 refine go_draw'  [3, 4] (SL.pre [(1, 0), (1, 1), (1, 2), (2, 3), (2, 4), (0, 5), (1, 6), (1, 7), (1, 8), (1, 9)] .nil) mixed rfl (by kernel_rfl) ?_
 iterate 5 first | refine go_pure1 Tk rfl rfl rfl ?_ | refine go_val2a rfl (ldv Tk rfl rfl rfl) rfl ?_
 refine go_call (binSearchP A1 c1 l q QA qc hr hn) rfl rfl (by rfl) rfl (by repeat constructor) (by repeat constructor) (fun h => nomatch h) ?_
 rintro _ _ _ ⟨rfl, rfl, rfl⟩
 iterate 4 refine go_pure1 Tk rfl rfl rfl ?_
 refine go_nil ?_
 refine go_env [(4, _), (5, _)] ⟨rfl, rfl, trivial⟩ ?_
 refine go_ret ⟨rfl, rfl⟩ _ _ (res2 (by rfl) (.tmp rfl) (.tmp rfl)) ⟨rfl, rfl, rfl⟩ (by repeat constructor) (by repeat constructor)

set_option maxHeartbeats 2000000 in
set_option maxRecDepth 20000 in
theorem relHasP (b : Nat) (l : List Fa) (q : Fa) (QA : Option Addr) (qc : Nat) (hr : rises l) (hn : l.length ≤ 50000000) :
    Spec Try.prog 46 #[.pointer (some ⟨b, 0, none⟩), .agg #[.int .u32 q.p, .slice QA q.a.length qc]] [relP b l, sl tU QA qc q.a] [] (fun v Ps' Os' => v = .bool (decide (q ∈ l)) ∧ Ps' = [] ∧ Os' = []) := by
 refine spec_of (fn := Try.f46) (args := [.pointer (some ⟨b, 0, none⟩), .agg #[.int .u32 q.p, .slice QA q.a.length qc]]) 14 Try.func46 rfl (by kernel_rfl) Try.ntmps46 (Nat.le_of_ble_eq_true rfl) (fun w0 hp0 hf0 => ?_)
 refine go_seq ?_
 refine go_region rfl ?_
 refine go_box Tk rfl rfl rfl rfl (by rfl) rfl rfl (fun h => nomatch h) ?_
 intro b1
 refine go_pure0 Tk rfl rfl rfl ?_
 refine go_nil ?_
 refine go_env [(0, _), (3, _)] ⟨rfl, rfl, trivial⟩ ?_
 refine go_seq ?_
 refine go_region rfl ?_
 refine go_pure0 Tk rfl rfl rfl ?_
 refine go_val0 rfl (ldv Tk rfl rfl rfl) rfl ?_
 refine go_call (relPlaceP b l q QA qc hr hn) rfl rfl (by rfl) rfl (by repeat constructor) (by repeat constructor) (fun h => nomatch h) ?_
 rintro _ _ _ ⟨rfl, rfl, rfl⟩
 iterate 5 refine go_pure0 Tk rfl rfl rfl ?_
 refine go_nil ?_
 refine go_env [(6, _)] ⟨rfl, trivial⟩ ?_
 iterate 4 first | refine go_seq ?_ | refine go_region rfl ?_ | refine go_pure0 Tk rfl rfl rfl ?_
 refine go_nil ?_
 refine go_env [(4, _)] ⟨rfl, trivial⟩ ?_
 refine go_ret ⟨rfl, rfl⟩ _ _ (res1 (by rfl) (.tmp rfl)) ⟨rfl, rfl, rfl⟩ (by repeat constructor) (by repeat constructor)

set_option maxHeartbeats 2000000 in
set_option maxRecDepth 20000 in
theorem relLenP (b : Nat) (l : List Fa) :
    Spec Try.prog 23 #[.pointer (some ⟨b, 0, none⟩)] [relP b l] [] (fun v Ps' Os' => v = .int .i64 (l.length : Int) ∧ Ps' = [] ∧ Os' = []) := by
 refine spec_of (fn := Try.f23) (args := [.pointer (some ⟨b, 0, none⟩)]) 10 Try.func23 rfl (by kernel_rfl) Try.ntmps23 (Nat.le_of_ble_eq_true rfl) (fun w0 hp0 hf0 => ?_)
 refine go_seq ?_
 refine go_region rfl ?_
 refine go_pure0 Tk rfl rfl rfl ?_
 refine go_nil ?_
 refine go_env [(0, _)] ⟨rfl, trivial⟩ ?_
 iterate 5 first | refine go_seq ?_ | refine go_region rfl ?_ | refine go_pure0 Tk rfl rfl rfl ?_
 refine go_nil ?_
 refine go_env [(0, _), (4, _)] ⟨rfl, rfl, trivial⟩ ?_
 refine go_cond_f rfl ?_
 refine go_skip ?_
 refine go_seq ?_
 refine go_relP (b := b) (by repeat constructor) (fun A1 c1 => ?_)
 iterate 7 first | refine go_region rfl ?_ | refine go_pure0 Tk rfl rfl rfl ?_ | refine go_val0 rfl (ldv Tk rfl rfl rfl) rfl ?_
 refine go_nil ?_
 refine go_env [(2, _)] ⟨rfl, trivial⟩ ?_
 refine go_ret ⟨rfl, rfl⟩ _ _ (res1 (by rfl) (.tmp rfl)) ⟨rfl, rfl, rfl⟩ (by repeat constructor) (by repeat constructor)

/-- A set that is read, or none. -/
def relN (p : Option Addr) (l : List Fa) : PA := ⟨fun h => (p = none ∧ l = []) ∨ ∃ b, p = some ⟨b, 0, none⟩ ∧ (relP b l).p h, fun hl q => q.imp id fun ⟨b, e, r⟩ => ⟨b, e, (relP b l).up hl r⟩⟩
theorem relN_nil {h : Heap} : (relN none []).p h := .inl ⟨rfl, rfl⟩
theorem relN_some {b : Nat} {l : List Fa} {h : Heap} (q : (relP b l).p h) : (relN (some ⟨b, 0, none⟩) l).p h := .inr ⟨b, rfl, q⟩
theorem go_relN {C : Ctx} {k : List It} {E : Env} {Ps : List PA} {Os : List OA} {p : Option Addr} {l : List Fa} (h : relN p l ∈ Ps) (hp : 0 < l.length) (g : ∀ b, p = some ⟨b, 0, none⟩ → Go C k E (relP b l :: Ps) Os) : Go C k E Ps Os := fun a w hp' ho hf hs hb => by
  rcases hs.ps _ h with ⟨_, e⟩ | ⟨b, e, q⟩
  · subst e; simp at hp
  · exact g b e a w hp' ho hf (hs.addp q) hb
theorem Spec.onN {P : Program} {f : FuncId} {args : Option Addr → Array Value} {p : Option Addr} {l : List Fa} {Ps : List PA} {Os : List OA} {Q : Value → List PA → List OA → Prop}
    (s1 : l = [] → Spec P f (args none) Ps Os Q) (s2 : ∀ b, Spec P f (args (some ⟨b, 0, none⟩)) (relP b l :: Ps) Os Q) : Spec P f (args p) (relN p l :: Ps) Os Q :=
  ⟨(s2 0).fn, fun w hp ho hf hs a b c => by
    rcases hs.ps _ (.head _) with ⟨e1, e2⟩ | ⟨b', e, q⟩
    · subst e1; exact (s1 e2).calls w hp ho hf ⟨hs.inp, hs.ino, hs.dj, fun p hp => hs.ps p (.tail _ hp), hs.os⟩ a b c
    · subst e; exact (s2 b').calls w hp ho hf ⟨hs.inp, hs.ino, hs.dj, forall_cons q fun p hp => hs.ps p (.tail _ hp), hs.os⟩ a b c⟩

set_option maxHeartbeats 2000000 in
set_option maxRecDepth 20000 in
theorem relHas0P (q : Fa) (QA : Option Addr) (qc : Nat) :
    Spec Try.prog 46 #[.pointer none, .agg #[.int .u32 q.p, .slice QA q.a.length qc]] [sl tU QA qc q.a] [] (fun v Ps' Os' => v = .bool false ∧ Ps' = [] ∧ Os' = []) := by
 refine spec_of (fn := Try.f46) (args := [.pointer none, .agg #[.int .u32 q.p, .slice QA q.a.length qc]]) 14 Try.func46 rfl (by kernel_rfl) Try.ntmps46 (Nat.le_of_ble_eq_true rfl) (fun w0 hp0 hf0 => ?_)
 refine go_seq ?_
 refine go_region rfl ?_
 refine go_box Tk rfl rfl rfl rfl (by rfl) rfl rfl (fun h => nomatch h) ?_
 intro b1
 refine go_pure0 Tk rfl rfl rfl ?_
 refine go_nil ?_
 refine go_env [(0, _), (3, _)] ⟨rfl, rfl, trivial⟩ ?_
 refine go_seq ?_
 refine go_region rfl ?_
 refine go_pure0 Tk rfl rfl rfl ?_
 refine go_val0 rfl (ldv Tk rfl rfl rfl) rfl ?_
 refine go_call (relPlace0 q QA qc) rfl rfl (by rfl) rfl (by repeat constructor) (by repeat constructor) (fun h => nomatch h) ?_
 rintro _ _ _ ⟨rfl, rfl, rfl⟩
 iterate 5 refine go_pure0 Tk rfl rfl rfl ?_
 refine go_nil ?_
 refine go_env [(6, _)] ⟨rfl, trivial⟩ ?_
 iterate 4 first | refine go_seq ?_ | refine go_region rfl ?_ | refine go_pure0 Tk rfl rfl rfl ?_
 refine go_nil ?_
 refine go_env [(4, _)] ⟨rfl, trivial⟩ ?_
 refine go_ret ⟨rfl, rfl⟩ _ _ (res1 (by rfl) (.tmp rfl)) ⟨rfl, rfl, rfl⟩ (by repeat constructor) (by repeat constructor)

theorem relHasN (p : Option Addr) (l : List Fa) (q : Fa) (QA : Option Addr) (qc : Nat) (hr : rises l) (hn : l.length ≤ 50000000) : Spec Try.prog 46 #[.pointer p, .agg #[.int .u32 q.p, .slice QA q.a.length qc]] [relN p l, sl tU QA qc q.a] [] (fun v Ps' Os' => v = .bool (decide (q ∈ l)) ∧ Ps' = [] ∧ Os' = []) :=
  Spec.onN (args := fun p => #[.pointer p, .agg #[.int .u32 q.p, .slice QA q.a.length qc]]) (fun e => by subst e; simpa using relHas0P q QA qc) (fun b => relHasP b l q QA qc hr hn)
theorem relLenN (p : Option Addr) (l : List Fa) : Spec Try.prog 23 #[.pointer p] [relN p l] [] (fun v Ps' Os' => v = .int .i64 (l.length : Int) ∧ Ps' = [] ∧ Os' = []) :=
  Spec.onN (args := fun p => #[.pointer p]) (fun e => by subst e; exact relLen0) (fun b => relLenP b l)

/-- What a loop over facts is handed: a fact, and where its Args lie. -/
abbrev Fx := Fa × Option Addr × Nat
def encX (x : Fx) : Value := .agg #[.int .u32 x.1.p, .slice x.2.1 x.1.a.length x.2.2]
def pxX (pre : List Fx) (x : Fx) : List PA := [PA.and (x.1.a.length ≤ 100000 ∧ pre.length ≤ 50000000) (sl tU x.2.1 x.2.2 x.1.a)]
/-- A box that bears a list that is owned through and through. -/
def ptl (b t : Nat) (l : List Fa) : OA := OA.ex fun A : Option Addr => OA.ex fun c : Nat => OA.all [pt b t [.slice A l.length c], dl tFa 41 A c l]
theorem ptl_mk {b t : Nat} {A : Option Addr} {c : Nat} {l : List Fa} {hp h : Heap} (q : Sep hp [pt b t [.slice A l.length c], dl tFa 41 A c l] h) : (ptl b t l).p hp h := ⟨A, c, q⟩
theorem go_ptl {C : Ctx} {k : List It} {E : Env} {Ps : List PA} {Os : List OA} {b t : Nat} {l : List Fa} {rr : List OA} (h : Rem (ptl b t l) Os rr) (g : ∀ (A : Option Addr) (c : Nat), Go C k E Ps ([pt b t [.slice A l.length c], dl tFa 41 A c l] ++ rr)) : Go C k E Ps Os :=
  go_oex h fun A => go_oex .here fun c => go_oall .here (g A c)
/-- A function of facts that answers p, with what it needs. -/
def SoSpec (g : FuncId) (cap : Array Value) (p : Fa → Bool) (PsS : List PA) : Prop :=
  ∀ (x : Fa) (A : Option Addr) (c : Nat), Spec Try.prog g (Value.agg #[.int .u32 x.p, .slice A x.a.length c] :: cap.toList).toArray (sl tU A c x.a :: PsS) [] (fun v Ps' Os' => v = .bool (p x) ∧ Ps' = [] ∧ Os' = [])
theorem filter_next {l : List Fa} {p : Fa → Bool} {k : Nat} (hk : k < l.length) {D : List Fx} (h : D.map (fun y : Fx => y.1) = (l.take k).filter p) : (p l[k] = true → ∀ (A : Option Addr) (c : Nat), (D ++ [((l[k], A, c) : Fx)]).map (fun y : Fx => y.1) = (l.take (k + 1)).filter p) ∧ (p l[k] = false → D.map (fun y : Fx => y.1) = (l.take (k + 1)).filter p) := by
  rw [List.take_succ_eq_append_getElem hk, List.filter_append]
  constructor
  · intro e A c; simp [h, e]
  · intro e; simp [h, e]

set_option maxHeartbeats 2000000 in
set_option maxRecDepth 20000 in
theorem those1 (ly bR bS : Nat) (R : List Fx → OA) (hY : Yld Try.prog ly encX pxX R) (p0 : Option Addr) (l : List Fa) (g : FuncId) (cap : Array Value) (p : Fa → Bool) (PS : PA) (hso : SoSpec g cap p [PS]) (hn : l.length ≤ 50000000) (hb : ∀ x ∈ l, x.a.length ≤ 100000) :
    Spec Try.prog 68 #[.func (.yield ly) #[] #[], .pointer (some ⟨bR, 0, none⟩), .pointer (some ⟨bS, 0, none⟩)] [cl bR 0 [.pointer p0], cl bS 0 [.func (.func g) #[] cap], relN p0 l, PS] [R []] (fun v Ps' Os' => ∃ xs : List Fx, xs.map (·.1) = l.filter p ∧ v = .tuple #[] ∧ Ps' = [] ∧ Os' = [R xs]) := by
 refine spec_of (fn := Try.f68) (args := [.func (.yield ly) #[] #[], .pointer (some ⟨bR, 0, none⟩), .pointer (some ⟨bS, 0, none⟩)]) 28 Try.func68 rfl (by kernel_rfl) Try.ntmps68 (Nat.le_of_ble_eq_true rfl) (fun w0 hp0 hf0 => ?_)
 refine go_seq ?_
 refine go_region rfl ?_
 refine go_val0 rfl (ldv Tk rfl rfl rfl) rfl ?_
 refine go_call (relLenN p0 l) rfl rfl (by rfl) rfl (by repeat constructor) (by repeat constructor) (fun h => nomatch h) ?_
 rintro _ _ _ ⟨rfl, rfl, rfl⟩
 refine go_pure0 Tk rfl rfl rfl ?_
 refine go_nil ?_
 refine go_env [(0, _), (1, _), (2, _), (7, _), (8, _)] ⟨rfl, rfl, rfl, rfl, rfl, trivial⟩ ?_
 refine go_block ?_
 refine go_loop' (X := Nat × List Fx) (fun x => [(8, .int .i64 (x.1 : Int))]) [(0, _), (1, _), (2, _), (7, _)] (fun x => [R x.2]) (fun x => x.1 ≤ l.length ∧ x.2.map (·.1) = (l.take x.1).filter p) (fun x => l.length - x.1) ((0, [])) ⟨rfl, rfl, rfl, rfl, rfl, trivial⟩ (by repeat constructor) ⟨by omega, by simp⟩ ?_
 intro ⟨k, D⟩ ⟨hk, hD⟩
 simp only at hk hD ⊢
 have hDl : D.length ≤ 50000000 := by
   have h1 := congrArg List.length hD
   have h2 := List.length_filter_le p (l.take k)
   rw [List.length_map] at h1
   rw [List.length_take] at h2
   omega
 refine go_seq ?_
 refine go_region rfl ?_
 refine go_pure0 Tk rfl rfl rfl ?_
 refine go_nil ?_
 refine go_env [(0, _), (1, _), (2, _), (7, _), (8, _), (9, _)] ⟨rfl, rfl, rfl, rfl, rfl, rfl, trivial⟩ ?_
 refine go_seq ?_
 refine go_condD rfl ?_ ?_
 ·intro c1
  iterate 7 first | refine go_skip ?_ | refine go_seq ?_ | refine go_block ?_ | refine go_region rfl ?_ | refine go_pure0 Tk rfl rfl rfl ?_
  refine go_nil ?_
  refine go_env [(0, _), (1, _), (2, _), (4, _), (7, _), (8, _)] ⟨rfl, rfl, rfl, rfl, rfl, rfl, trivial⟩ ?_
  refine go_seq ?_
  refine go_relN (p := p0) (l := l) (by repeat constructor) (by omega) (fun b hb0 => ?_); subst hb0
  refine go_relP (b := b) (by repeat constructor) (fun A1 c1 => ?_)
  refine go_elem_fa (xs := l) (by repeat constructor) (k) (List.getElem?_eq_getElem (by omega)) (fun b0 o0 FA fc hA => ?_); cases hA
  iterate 6 first | refine go_region rfl ?_ | refine go_val0 rfl (ldv Tk rfl rfl rfl) rfl ?_ | refine go_pure0 Tk rfl rfl rfl ?_
  refine go_val0 rfl (idx_val Tk rfl rfl rfl rfl rfl (by omega)) rfl ?_
  refine go_val0 rfl (ldv Tk rfl rfl rfl) rfl ?_
  refine go_alloc Tk rfl rfl rfl (by rfl) rfl rfl (fun h => nomatch h) ?_
  intro b1
  refine go_store Tk rfl rfl rfl rfl rfl rfl (by repeat constructor) rfl rfl (by rfl) (fun h => nomatch h) ?_
  refine go_nil ?_
  refine go_env [(0, _), (1, _), (2, _), (5, _), (7, _), (8, _)] ⟨rfl, rfl, rfl, rfl, rfl, rfl, trivial⟩ ?_
  refine go_seq ?_
  refine go_regionY [false, false, false, false, false, false, true] rfl ?_
  iterate 2 refine go_val0 rfl (ldv Tk rfl rfl rfl) rfl ?_
  refine go_call (hso l[k] FA fc) rfl rfl (by rfl) rfl (by repeat constructor) (by repeat constructor) (fun h => nomatch h) ?_
  rintro _ _ _ ⟨rfl, rfl, rfl⟩
  refine go_ent (PA.and (l[k].a.length ≤ 100000 ∧ D.length ≤ 50000000) (sl tU FA fc l[k].a)) (fun hh a => ⟨⟨hb _ (List.getElem_mem _), hDl⟩, a (sl tU FA fc l[k].a) (by repeat constructor)⟩) ?_
  refine go_pure0 Tk rfl rfl rfl ?_
  refine go_known 21 rfl ?_ ?_
  ·intro g1
   (try simp only [decide_eq_true_eq, decide_eq_false_iff_not, Bool.not_eq_true', Bool.not_eq_false', Bool.not_eq_eq_eq_not, Bool.not_true, Bool.not_false, Int.not_lt, Int.not_le, beq_iff_eq, beq_eq_false_iff_ne, ne_eq] at g1)
   refine go_pure0 Tk rfl rfl rfl ?_
   refine go_val0 rfl (ldv Tk rfl rfl rfl) rfl ?_
   refine go_yield hY (D) ((l[k], FA, fc)) rfl rfl rfl rfl rfl (by repeat constructor) (by repeat constructor) ?_
   iterate 2 refine go_pure0 Tk rfl rfl rfl ?_
   refine go_nil ?_
   refine go_env [(0, _), (1, _), (2, _), (7, _), (8, _), (22, _), (23, _), (24, _), (25, _), (26, _)] ⟨rfl, rfl, rfl, rfl, rfl, rfl, rfl, rfl, rfl, rfl, trivial⟩ ?_
   refine go_cond_f rfl ?_
   refine go_skip ?_
   refine go_blk ?_
   iterate 3 first | refine go_region rfl ?_ | refine go_pure0 Tk rfl rfl rfl ?_
   refine go_nil ?_
   refine go_i64 8 rfl (by omega) (by omega) ?_
   refine go_back (k + 1, _) ⟨rfl, rfl, rfl, rfl, rfl, trivial⟩ (by repeat constructor) (by repeat constructor) ⟨by show k + 1 ≤ _; omega, (filter_next (by omega) hD).1 g1 _ _⟩ (by show l.length - (k + 1) < l.length - k; omega)
  ·intro g1
   (try simp only [decide_eq_true_eq, decide_eq_false_iff_not, Bool.not_eq_true', Bool.not_eq_false', Bool.not_eq_eq_eq_not, Bool.not_true, Bool.not_false, Int.not_lt, Int.not_le, beq_iff_eq, beq_eq_false_iff_ne, ne_eq] at g1)
   iterate 2 refine go_skip0 rfl rfl ?_
   refine go_skipY rfl rfl ?_
   refine go_skip0 rfl rfl ?_
   refine go_pure0 Tk rfl rfl rfl ?_
   refine go_nil ?_
   refine go_env [(0, _), (1, _), (2, _), (7, _), (8, _), (22, _), (23, _), (24, _), (25, _), (26, _)] ⟨rfl, rfl, rfl, rfl, rfl, rfl, rfl, rfl, rfl, rfl, trivial⟩ ?_
   refine go_cond_f rfl ?_
   refine go_skip ?_
   refine go_blk ?_
   iterate 3 first | refine go_region rfl ?_ | refine go_pure0 Tk rfl rfl rfl ?_
   refine go_nil ?_
   refine go_i64 8 rfl (by omega) (by omega) ?_
   refine go_back (k + 1, D) ⟨rfl, rfl, rfl, rfl, rfl, trivial⟩ (by repeat constructor) (by repeat constructor) ⟨by show k + 1 ≤ _; omega, (filter_next (by omega) hD).2 g1⟩ (by show l.length - (k + 1) < l.length - k; omega)
 ·intro c1
  refine go_exit rfl ?_
  refine go_end ⟨rfl, rfl⟩ _ _ (res0 (by rfl)) ⟨D, by rw [List.take_of_length_le (by omega)] at hD; exact hD, rfl, rfl, rfl⟩ (by repeat constructor) (by repeat constructor)

set_option maxHeartbeats 2000000 in
set_option maxRecDepth 20000 in
theorem relThose (p0 : Option Addr) (g : FuncId) (cap : Array Value) :
    Spec Try.prog 56 #[.pointer p0, .func (.func g) #[] cap] [] [] (fun v Ps' Os' => ∃ bR bS, v = .func (.func 68) #[] #[.pointer (some ⟨bR, 0, none⟩), .pointer (some ⟨bS, 0, none⟩)] ∧ Ps' = [cl bR 0 [.pointer p0], cl bS 0 [.func (.func g) #[] cap]] ∧ Os' = []) := by
 refine spec_of (fn := Try.f56) (args := [.pointer p0, .func (.func g) #[] cap]) 6 Try.func56 rfl (by kernel_rfl) Try.ntmps56 (Nat.le_of_ble_eq_true rfl) (fun w0 hp0 hf0 => ?_)
 refine go_seq ?_
 refine go_region rfl ?_
 refine go_box Tk rfl rfl rfl rfl (by rfl) rfl rfl (fun h => nomatch h) ?_
 intro bR
 refine go_box Tk rfl rfl rfl rfl (by rfl) rfl rfl (fun h => nomatch h) ?_
 intro bS
 refine go_freeze_pt (b := bR) (by repeat constructor) ?_
 refine go_freeze_pt (b := bS) (by repeat constructor) ?_
 refine go_pure0 Tk rfl rfl rfl ?_
 refine go_nil ?_
 refine go_env [(2, _), (3, _)] ⟨rfl, rfl, trivial⟩ ?_
 iterate 4 first | refine go_seq ?_ | refine go_region rfl ?_ | refine go_pure0 Tk rfl rfl rfl ?_
 refine go_nil ?_
 refine go_env [(4, _)] ⟨rfl, trivial⟩ ?_
 refine go_ret ⟨rfl, rfl⟩ _ _ (res1 (by rfl) (.tmp rfl)) ⟨bR, bS, rfl, rfl, rfl⟩ (by repeat constructor) (by repeat constructor)

set_option maxHeartbeats 2000000 in
set_option maxRecDepth 20000 in
theorem relList_ (p0 : Option Addr) (l : List Fa) (g : FuncId) (cap : Array Value) (p : Fa → Bool) (PS : PA) (hso : SoSpec g cap p [PS]) (hn : l.length ≤ 50000000) (hb : ∀ x ∈ l, x.a.length ≤ 100000) :
    Spec Try.prog 43 #[.pointer p0, .func (.func g) #[] cap] [relN p0 l, PS] [] (fun v Ps' Os' => ∃ A c, v = .slice A (l.filter p).length c ∧ Ps' = [] ∧ Os' = [dl tFa 41 A c (l.filter p)]) := by
 refine spec_of (fn := Try.f43) (args := [.pointer p0, .func (.func g) #[] cap]) 16 Try.func43 rfl (by kernel_rfl) Try.ntmps43 (Nat.le_of_ble_eq_true rfl) (fun w0 hp0 hf0 => ?_)
 refine go_seq ?_
 refine go_region rfl ?_
 refine go_alloc Tk rfl rfl rfl (by rfl) rfl rfl (fun h => nomatch h) ?_
 intro br
 refine go_nil ?_
 refine go_env [(0, _), (1, _), (4, _)] ⟨rfl, rfl, rfl, trivial⟩ ?_
 iterate 5 first | refine go_seq ?_ | refine go_region rfl ?_ | refine go_pure0 Tk rfl rfl rfl ?_
 refine go_call (relThose p0 g cap) rfl rfl (by rfl) rfl (by repeat constructor) (by repeat constructor) (fun h => nomatch h) ?_
 rintro _ _ _ ⟨bR, bS, rfl, rfl, rfl⟩
 refine go_down_nil tFa 41 none ?_
 refine go_fold [pt br 29 [.slice none 0 0], dl tFa 41 none 0 []] (ptl br 29 []) (by repeat constructor) (fun _ _ q => ⟨none, 0, q⟩) ?_
 refine go_nil ?_
 refine go_env [(4, _), (8, _)] ⟨rfl, rfl, trivial⟩ ?_
 refine go_block ?_
 refine go_range (α := Fx) (enc := encX) (Px := pxX) rfl rfl rfl (fun D => [ptl br 29 (D.map (fun y : Fx => y.1))]) ([]) ([]) (by repeat constructor) (by repeat constructor) ([cl bR 0 [.pointer p0], cl bS 0 [.func (.func g) #[] cap], relN p0 l, PS]) (by repeat constructor) (fun xs => xs.map (·.1) = l.filter p) (fun ly R hY => (those1 ly bR bS R hY p0 l g cap p PS hso hn hb).imp fun v P' O' ⟨xs, h1, _, h2, h3⟩ => ⟨xs, h1, h2, h3⟩) (X := Nat) (fun x => [(5, .pointer (some ⟨x, 0, none⟩))]) [(4, .pointer (some ⟨br, 0, none⟩))] (fun pre x y => [pt y 41 [.int .u32 x.1.p, .slice x.2.1 x.1.a.length x.2.2], ptl br 29 (pre.map (fun y : Fx => y.1))]) (fun _ _ _ => True) (fun ly pre x w0' hp0' hf0' => ?_) (fun ly pre x y _ w0' hp0' hf0' => ?_) (fun D xs hdj hxs => ?_)
 ·skip
  refine go_region rfl ?_
  refine go_alloc Tk rfl rfl rfl (by rfl) rfl rfl (fun h => nomatch h) ?_
  intro b1
  refine go_store Tk rfl rfl rfl rfl rfl rfl (by repeat constructor) rfl rfl (by rfl) (fun h => nomatch h) ?_
  refine go_nil ?_
  refine go_back _ ⟨rfl, rfl, trivial⟩ (by repeat constructor) (by repeat constructor) trivial (by decide)
 ·skip
  refine go_pand (fun hxa => ?_)
  refine go_ptl (b := br) (by repeat constructor) (fun A1 c1 => ?_)
  refine go_block ?_
  refine go_draw'  [0, 1] (SL.pre [(2, 0), (2, 1), (0, 2), (0, 3), (0, 4), (0, 5)] .nil) mixed rfl (by kernel_rfl) ?_
  iterate 2 refine go_val2a rfl (ldv Tk rfl rfl rfl) rfl ?_
  refine go_call (relCopied x.1 x.2.1 x.2.2 hxa.1) rfl rfl (by rfl) rfl (by repeat constructor) (by repeat constructor) (fun _ v Ps' Os' hq => by obtain ⟨A', c', rfl, rfl, rfl⟩ := hq; exact satS (by repeat constructor) (by repeat constructor)) ?_
  rintro _ _ _ ⟨A', c', rfl, rfl, rfl⟩
  refine go_vo_fa (A := A') (c := c') x.1 (by repeat constructor) ?_
  refine go_bslice Tk rfl rfl rfl rfl rfl rfl rfl rfl (fun _ _ => satA) ?_
  intro bn
  refine go_append1d (T := tFa) (xs := pre.map (fun y : Fx => y.1)) Tk x.1 rfl rfl rfl rfl rfl rfl rfl rfl rfl (by repeat constructor) (by repeat constructor) (by repeat constructor) rfl (by rw [List.length_map]; omega) (fun h => nomatch h) ?_
  intro A2 c2
  refine go_store Tk rfl rfl rfl rfl rfl rfl (by repeat constructor) rfl rfl (by rfl) (fun h => nomatch h) ?_
  refine go_nil ?_
  refine go_fold [pt br 29 [.slice A2 (pre.map (fun y : Fx => y.1) ++ [x.1]).length c2], dl tFa 41 A2 c2 (pre.map (fun y : Fx => y.1) ++ [x.1])] (ptl br 29 ((pre ++ [x]).map (fun y : Fx => y.1))) (by repeat constructor) (fun _ _ q => by rw [List.map_append]; exact ptl_mk q) ?_
  refine go_env [] trivial ?_
  refine go_blk ?_
  refine go_back () trivial (by repeat constructor) (by repeat constructor) trivial (by decide)
 refine go_blk ?_
 refine go_seq ?_
 rw [hxs]
 refine go_ptl (b := br) (by repeat constructor) (fun A1 c1 => ?_)
 refine go_region rfl ?_
 refine go_val0 rfl (ldv Tk rfl rfl rfl) rfl ?_
 refine go_store Tk rfl rfl rfl rfl rfl rfl (by repeat constructor) rfl rfl (by rfl) (fun h => nomatch h) ?_
 refine go_nil ?_
 refine go_env [(4, _)] ⟨rfl, trivial⟩ ?_
 refine go_retR ⟨rfl, rfl⟩ hdj _ _ (res1 (by rfl) (.cell rfl (rdv Tk rfl))) ⟨_, _, rfl, rfl, rfl⟩ (by repeat constructor) (by repeat constructor)

end Go.Proofs.Ytkhddfknpegpmaa.SL

/- More rules: arrays, read atoms said together, an owned list whose elements are only read from then on. -/
set_option linter.unusedVariables false
set_option linter.unusedSimpArgs false
namespace Go.Proofs.Ytkhddfknpegpmaa.SL
theorem idxA_val {C : Ctx} {E : Env} {Ps : List PA} {Os : List OA} {o : Oper} {tb : TB} (ht : TOk C.P tb) {t e : TypeId} {x y : Operand} {b oo n : Nat} {kk : IntKind} {j : Int} {s1 : Nat} {a1 : Bool} {z1 : Value} {y1 : Nat} {i : TI} (ho : o.op = .indexAddr t x y)
    (hx : ev E x = some (.pointer (some ⟨b, oo, none⟩))) (hy : ev E y = some (.int kk j)) (hi : lookT tb t = some ⟨.array n e, s1, a1, z1, y1⟩) (he : lookT tb e = some i) (hj : 0 ≤ j ∧ j < n) :
    ∀ a w hp ho, Fits C.N E a → Sat w hp ho Ps Os → (execOp a.eval o).run C.P w = .ok (.value (.pointer (some ⟨b, oo + j.toNat * i.size, none⟩))) w := fun a w hp ho' hf hs => by
  have hu := run_und (ht _ _ hi).u w
  have hs := (ht _ _ he).size w
  simp [execOp, ho, hf.ev hx, hf.ev hy, Instr.indexAt, Instr.sureAddr, asIntOf, hu, hj.1, hj.2, hs, run_addOff]
theorem putL_put : ∀ (n : Nat) (vs l : List Value), n + vs.length ≤ l.length → putL n vs l = some (putS n vs l)
  | 0, [], l, _ => by simp [putL, putS]
  | 0, v :: vs, [], h => by simp at h
  | 0, v :: vs, a :: l, h => by
    simp only [List.length_cons] at h
    simp only [putL, putL_put 0 vs l (by omega)]
    simp [putS]
  | n + 1, vs, [], h => by simp at h
  | n + 1, vs, a :: l, h => by
    simp only [List.length_cons] at h
    simp only [putL, putL_put n vs l (by omega)]
    simp [putS, Nat.add_right_comm n 1]
def PA.all (l : List PA) : PA := ⟨fun h => ∀ p, p ∈ l → p.p h, fun hl h p hp => p.up hl (h p hp)⟩
section
variable {C : Ctx} {k : List It} {E : Env} {Ps : List PA} {Os : List OA}
theorem go_pall {l : List PA} (h : PA.all l ∈ Ps) (g : Go C k E (l ++ Ps) Os) : Go C k E Ps Os := fun a w hp ho hf hs hb =>
  g a w hp ho hf ⟨hs.inp, hs.ino, hs.dj, fun p hp' => (List.mem_append.1 hp').elim (hs.ps _ h p) (hs.ps p), hs.os⟩ hb
theorem go_mkall (l : List PA) (h : Subs Ps l) (g : Go C k E (PA.all l :: Ps) Os) : Go C k E Ps Os := go_ent (PA.all l) (fun hp a p hq => a p (h.mem p hq)) g
/-- A part of what is owned is henceforth only read. -/
theorem go_part (A B : OA) {r : List OA} (h : Rem A Os r) (hi : ∀ hp h1, A.p hp h1 → ∃ ha hb : Heap, ha.le h1 ∧ hb.le h1 ∧ ha.dj hb ∧ ∀ H, hp.le H → hb.le H → B.p H ha) (g : Go C k E Ps (B :: r)) : Go C k E Ps Os := fun a w hp ho hf hs hb => by
  obtain ⟨h1, h2, i, b, c, d, e⟩ := Sep.rem h hs.os
  obtain ⟨ha, hc, la, lc, dac, hB⟩ := hi hp h1 d
  have dj1 : hp.dj hc := Heap.dj_le hs.dj (Heap.le_refl _) (lc.tr i)
  have djA : hp.dj ha := Heap.dj_le hs.dj (Heap.le_refl _) (la.tr i)
  have d12 : (hp.add hc).dj h2 := Heap.add_dj (Heap.dj_le hs.dj (Heap.le_refl _) b) (Heap.dj_le c lc (Heap.le_refl _))
  have dA2 : ha.dj h2 := Heap.dj_le c la (Heap.le_refl _)
  have dpA : (hp.add hc).dj ha := Heap.add_dj djA (Heap.dj_symm dac)
  refine g a w (hp.add hc) (ha.add h2) hf ⟨Heap.add_le hs.inp ((lc.tr i).tr hs.ino), Heap.add_le ((la.tr i).tr hs.ino) (b.tr hs.ino), Heap.dj_symm (Heap.add_dj (Heap.dj_symm dpA) (Heap.dj_symm d12)), fun p hq => p.up (Heap.le_add_left _ _) (hs.ps p hq),
      ha, h2, Heap.le_add_left _ _, Heap.le_add_right dA2, dA2, hB _ (Heap.le_add_left _ _) (Heap.le_add_right dj1), Sep.up (Heap.le_add_left _ _) e⟩
    ⟨hb.hp0.tr (Heap.le_add_left _ _), hb.hf, Heap.dj_symm (Heap.add_dj (Heap.dj_symm hb.djp) (Heap.dj_le (Heap.dj_symm hb.djo) (lc.tr i) (Heap.le_refl _))),
      Heap.dj_symm (Heap.add_dj (Heap.dj_le (Heap.dj_symm hb.djo) (la.tr i) (Heap.le_refl _)) (Heap.dj_le (Heap.dj_symm hb.djo) b (Heap.le_refl _))), hb.rest⟩
theorem go_dl_ol {α : Type} {T : Ty α} {e : Nat} {A : Option Addr} {c : Nat} {xs : List α} {r : List OA} (h : Rem (dl T e A c xs) Os r) (g : Go C k E Ps (ol T e A c xs :: r)) : Go C k E Ps Os :=
  go_part _ (ol T e A c xs) h (fun hp h1 ⟨cs, g1, g2, a, b, d, hr, hs, _⟩ => ⟨g1, g2, a, b, d, fun H _ l2 => ⟨cs, hr, hs.up l2⟩⟩) g
end
theorem at_one {Ps : List PA} {Os : List OA} {b e oo : Nat} {cur : List Value} {v : Value} {rr : List OA} (h : Rem (pt b e cur) Os rr) (h3 : cur[oo]? = some v) : At Ps Os b oo 1 [v] :=
  at_any h rfl (fun i u hv => by
    cases i with
    | zero => simp at hv; subst hv; simpa using h3
    | succ i => simp at hv)
/-- A contract that only reads a list, where the list is one's own. -/
theorem Spec.ownl {P : Program} {f : FuncId} {args : Array Value} {α : Type} {T : Ty α} {e : Nat} {A : Option Addr} {c : Nat} {xs : List α} {Ps : List PA} {Q : Value → Prop} (s : Spec P f args (sl T A c xs :: Ps) [] (fun v Ps' Os' => Q v ∧ Ps' = [] ∧ Os' = [])) : Spec P f args Ps [ol T e A c xs] (fun v Ps' Os' => Q v ∧ Ps' = [] ∧ Os' = [ol T e A c xs]) :=
  (s.lend (ol T e A c xs) lend_ol (fun v P' O' h => ⟨h.2.1, by rw [h.2.2]; intro B hB; cases hB⟩)).imp fun v P' O' ⟨O2, ⟨h1, _, h3⟩, h4, h5⟩ => ⟨h1, h4, by rw [h5, h3]⟩
theorem fc_int {kk : IntKind} : ∀ (h : Heap) (x : Int) (cs : List Value), (tInt kk).rep h x cs → cs = (fun y : Int => [Value.int kk y]) x := fun _ _ _ h => h
theorem Sl.pre {α : Type} {T : Ty α} {hh : Heap} {A : Option Addr} {c : Nat} {xs : List α} (s : Sl T hh A c xs) (n : Nat) : Sl T hh A c (xs.take n) :=
  ⟨by have := s.1; simp; omega, s.2.1, s.2.2.1, fun j x hj => by
    rw [List.getElem?_take] at hj
    split at hj
    · exact s.2.2.2 j x hj
    · cases hj⟩
theorem Spec.less {P : Program} {f : FuncId} {args : Array Value} {Ps Ps' : List PA} {Os : List OA} {Q : Value → List PA → List OA → Prop} (s : Spec P f args Ps Os Q) (h : ∀ q, q ∈ Ps → q ∈ Ps') : Spec P f args Ps' Os Q :=
  ⟨s.fn, fun w hp ho hf hs a b c => s.calls w hp ho hf ⟨hs.inp, hs.ino, hs.dj, fun p hp' => hs.ps p (h p hp'), hs.os⟩ a b c⟩
theorem at_olp {Ps : List PA} {Os : List OA} {α : Type} {T : Ty α} (fc : α → List Value) (hT : ∀ h x cs, T.rep h x cs → cs = fc x) {e b c n p : Nat} {xs : List α} {x : α} {rr : List OA} {out : List Value} (h : Rem (ol T e (some ⟨b, 0, none⟩) c xs) Os rr) (j : Nat) (hj : xs[j]? = some x) (hp : p = 0 + j * T.size) (ho : takeL n (fc x) = some out) :
    At Ps Os b p n out := by
  subst hp
  exact at_ol fc hT 0 h hj ho
theorem Reps.head {α : Type} {T : Ty α} {h : Heap} {xs : List α} {cs : List Value} (r : Reps T h xs cs) {m : Nat} (hm : m ≤ xs.length) : Reps T h (xs.take m) (cs.take (m * T.size)) := by
  have := (Reps.split (xs := xs.take m) (ys := xs.drop m) (by rw [List.take_append_drop]; exact r)).1
  rwa [List.length_take, Nat.min_eq_left hm] at this
end Go.Proofs.Ytkhddfknpegpmaa.SL

/- When an atom matches a fact; what variables stand for. -/
set_option linter.unusedVariables false
set_option linter.unusedSimpArgs false
namespace Go.Proofs.Ytkhddfknpegpmaa.SL
/-- What a term is, its variable standing for a symbol. -/
def tv (s : Int → Int) (t : Tm) : Int := if t.v then s t.n else t.n
def ap (s : Int → Int) (a : Am) : Fa := ⟨a.p, a.a.map (tv s)⟩
def Mt (a : Am) (f : Fa) : Prop := ∃ s, f = ap s a
noncomputable instance (a : Am) (f : Fa) : Decidable (Mt a f) := Classical.propDecidable _
noncomputable def mtch (a : Am) (f : Fa) : Bool := decide (Mt a f)
theorem Mt.pred {a : Am} {f : Fa} (h : Mt a f) : a.p = f.p ∧ a.a.length = f.a.length := by obtain ⟨s, rfl⟩ := h; simp [ap]
/-- So many places fit. -/
def fits (s : Int → Int) (a : List Tm) (f : List Int) (i : Nat) : Prop := ∀ k t n, k < i → a[k]? = some t → f[k]? = some n → tv s t = n
theorem fits_zero (s : Int → Int) (a : List Tm) (f : List Int) : fits s a f 0 := fun k t n h => by omega
theorem fits_next {s : Int → Int} {a : List Tm} {f : List Int} {i : Nat} (h1 : i < a.length) (h2 : i < f.length) : fits s a f (i + 1) ↔ fits s a f i ∧ tv s a[i] = f[i] := by
  constructor
  · intro h
    exact ⟨fun k t n hk => h k t n (by omega), h i _ _ (by omega) (List.getElem?_eq_getElem h1) (List.getElem?_eq_getElem h2)⟩
  · rintro ⟨h, g⟩ k t n hk ha hf
    rcases Nat.lt_or_ge k i with q | q
    · exact h k t n q ha hf
    · obtain rfl : k = i := by omega
      rw [List.getElem?_eq_getElem h1] at ha
      rw [List.getElem?_eq_getElem h2] at hf
      cases ha; cases hf; exact g
theorem Mt_of_fits {a : Am} {f : Fa} {s : Int → Int} (hp : a.p = f.p) (hl : a.a.length = f.a.length) (h : fits s a.a f.a a.a.length) : Mt a f := by
  refine ⟨s, ?_⟩
  obtain ⟨p, l⟩ := f
  simp only at hp hl h
  unfold ap
  rw [hp]
  congr 1
  apply List.ext_getElem?
  intro k
  rcases Nat.lt_or_ge k a.a.length with q | q
  · rw [List.getElem?_map, List.getElem?_eq_getElem q, List.getElem?_eq_getElem (by omega)]
    simp only [Option.map_some, Option.some.injEq]
    exact (h k _ _ q (List.getElem?_eq_getElem q) (List.getElem?_eq_getElem (by omega))).symm
  · rw [List.getElem?_eq_none (by omega), List.getElem?_eq_none (by simpa using q)]
theorem fits_of_Mt {a : Am} {s : Int → Int} (i : Nat) : fits s a.a (ap s a).a i := fun k t n hk ha hf => by
  simp only [ap, List.getElem?_map, ha, Option.map_some, Option.some.injEq] at hf
  exact hf
theorem mtch_no {a : Am} {f : Fa} (h : a.p = f.p → a.a.length = f.a.length → False) : mtch a f = false := by
  unfold mtch
  rw [decide_eq_false_iff_not]
  intro c; exact h c.pred.1 c.pred.2
/-- What is held agrees. -/
def agrees (σ : Int → Option Int) (s : Int → Int) : Prop := ∀ n m, 0 ≤ n → σ n = some m → s n = m
def upd (σ : Int → Option Int) (n m : Int) : Int → Option Int := fun k => if k = n then some m else σ k
def inv (σ : Int → Option Int) (a : List Tm) (f : List Int) (i : Nat) : Prop := ∀ s, fits s a f i ↔ agrees σ s
theorem inv_zero (a : List Tm) (f : List Int) : inv (fun _ => none) a f 0 := fun s => ⟨fun _ n m _ h => (by cases h), fun _ => fits_zero s a f⟩
theorem inv_sym {σ : Int → Option Int} {a : List Tm} {f : List Int} {i : Nat} (h : inv σ a f i) (h1 : i < a.length) (h2 : i < f.length) (hv : a[i].v = false) (hn : a[i].n = f[i]) : inv σ a f (i + 1) := fun s => by
  rw [fits_next h1 h2, h s]
  simp [tv, hv, hn]
theorem inv_var {σ : Int → Option Int} {a : List Tm} {f : List Int} {i : Nat} (h : inv σ a f i) (h1 : i < a.length) (h2 : i < f.length) (hv : a[i].v = true) (h0 : 0 ≤ a[i].n) (hn : σ a[i].n = none ∨ σ a[i].n = some f[i]) : inv (upd σ a[i].n f[i]) a f (i + 1) := fun s => by
  rw [fits_next h1 h2, h s]
  simp only [tv, hv, if_true]
  constructor
  · rintro ⟨g1, g2⟩ n m hn0 e
    unfold upd at e
    split at e
    · rename_i q; cases e; rw [q]; exact g2
    · exact g1 n m hn0 e
  · intro g
    refine ⟨fun n m hn0 e => ?_, g _ _ h0 (by simp [upd])⟩
    by_cases q : n = a[i].n
    · subst q
      rcases hn with hn | hn
      · rw [hn] at e; cases e
      · rw [hn] at e; cases e
        exact g _ _ h0 (by simp [upd])
    · exact g n m hn0 (by simp [upd, q, e])
theorem mtch_sym_no {a : Am} {f : Fa} {i : Nat} (h1 : i < a.a.length) (h2 : i < f.a.length) (hv : a.a[i].v = false) (hn : ¬ a.a[i].n = f.a[i]) : mtch a f = false := by
  unfold mtch
  rw [decide_eq_false_iff_not]
  rintro ⟨s, rfl⟩
  have := fits_of_Mt (a := a) (s := s) (i + 1) i _ _ (by omega) (List.getElem?_eq_getElem h1) (List.getElem?_eq_getElem h2)
  simp only [tv, hv] at this
  exact hn (by simpa using this)
theorem mtch_var_no {σ : Int → Option Int} {a : Am} {f : Fa} {i : Nat} (h : inv σ a.a f.a i) (h1 : i < a.a.length) (h2 : i < f.a.length) (hv : a.a[i].v = true) (h0 : 0 ≤ a.a[i].n) (hn : ¬ (σ a.a[i].n = none ∨ σ a.a[i].n = some f.a[i])) : mtch a f = false := by
  unfold mtch
  rw [decide_eq_false_iff_not]
  rintro ⟨s, rfl⟩
  have g := fits_of_Mt (a := a) (s := s) (i + 1) i _ _ (by omega) (List.getElem?_eq_getElem h1) (List.getElem?_eq_getElem h2)
  have g2 := (h s).1 (fits_of_Mt i)
  simp only [tv, hv, if_true] at g
  cases e : σ a.a[i].n with
  | none => exact hn (.inl e)
  | some m =>
    have := g2 _ _ h0 e
    refine hn (.inr ?_)
    rw [e, ← g, this]
theorem mtch_yes {σ : Int → Option Int} {a : Am} {f : Fa} (hp : a.p = f.p) (hl : a.a.length = f.a.length) (h : inv σ a.a f.a a.a.length) : mtch a f = true := by
  unfold mtch
  rw [decide_eq_true_iff]
  exact Mt_of_fits hp hl ((h fun n => (σ n).getD 0).2 fun n m _ e => by simp [e])
/-! ### what is held, in lists -/
def sig (few : List Int) (is : List Bool) (many : List Tm) (by_ : List Int) (n : Int) : Option Int :=
  if n < 16 then (if is[n.toNat]? = some true then few[n.toNat]? else none) else (many.findIdx? (· = ⟨true, n⟩)).bind (by_[·]?)
structure HeldOk (few : List Int) (is : List Bool) (many : List Tm) (by_ : List Int) (σ : Int → Option Int) (m : Nat) : Prop where
  l1 : few.length = 16
  l2 : is.length = 16
  l3 : many.length = by_.length
  l4 : many.length ≤ m
  so : ∀ n, 0 ≤ n → sig few is many by_ n = σ n
theorem held_small {few : List Int} {is : List Bool} {many : List Tm} {by_ : List Int} {σ : Int → Option Int} {m : Nat} (h : HeldOk few is many by_ σ m) {n : Nat} (hn : n < 16) (x : Int) :
    HeldOk (few.set n x) (is.set n true) many by_ (upd σ n x) m := by
  refine ⟨by simp [h.l1], by simp [h.l2], h.l3, h.l4, fun k hk => ?_⟩
  unfold sig upd
  have h1 := h.l1
  have h2 := h.l2
  by_cases e : k = n
  · subst e
    simp [show ((n : Int) < 16) by omega, h1, h2, hn]
  · have hs := h.so k hk
    unfold sig at hs
    rw [if_neg e, ← hs]
    by_cases hk16 : k < 16
    · rw [if_pos hk16, if_pos hk16, List.getElem?_set_ne (by omega), List.getElem?_set_ne (by omega)]
    · rw [if_neg hk16, if_neg hk16]
theorem findIdx_app {l : List Tm} {x y : Tm} : (l ++ [y]).findIdx? (· = x) = match l.findIdx? (· = x) with | some j => some j | none => if y = x then some l.length else none := by
  rw [List.findIdx?_append]
  cases e : l.findIdx? (· = x) with
  | some j => simp
  | none =>
    by_cases q : y = x
    · simp [q, List.findIdx?_cons]
    · simp [q, List.findIdx?_cons]
theorem findIdx_lt {l : List Tm} {x : Tm} {j : Nat} (h : l.findIdx? (· = x) = some j) : j < l.length := by
  rw [List.findIdx?_eq_some_iff_getElem] at h
  exact h.1
theorem held_new {few : List Int} {is : List Bool} {many : List Tm} {by_ : List Int} {σ : Int → Option Int} {m : Nat} (h : HeldOk few is many by_ σ m) {n : Int} (hn : ¬ n < 16) (hf : many.findIdx? (· = ⟨true, n⟩) = none) (x : Int) :
    HeldOk few is (many ++ [⟨true, n⟩]) (by_ ++ [x]) (upd σ n x) (m + 1) := by
  refine ⟨h.l1, h.l2, by simp [h.l3], by have := h.l4; simp; omega, fun k hk => ?_⟩
  have hs := h.so k hk
  unfold sig at hs ⊢
  unfold upd
  by_cases hk16 : k < 16
  · rw [if_pos hk16] at hs ⊢
    rw [if_neg (show ¬ k = n by omega), ← hs]
  · rw [if_neg hk16] at hs ⊢
    rw [findIdx_app]
    by_cases e : k = n
    · subst e
      rw [hf, if_pos rfl]
      simp [h.l3]
    · rw [if_neg e, ← hs]
      cases e2 : many.findIdx? (· = ⟨true, k⟩) with
      | none =>
        have : ¬ (⟨true, n⟩ : Tm) = ⟨true, k⟩ := fun q => e (by cases q; rfl)
        simp [this]
      | some j =>
        have := findIdx_lt e2
        have h3 := h.l3
        simp only [Option.bind_some]
        rw [List.getElem?_append_left (by omega)]
/-- What the first one of some is that is like a term. -/
def idxT (l : List Tm) (x : Tm) : Int := match l.findIdx? (· = x) with | some j => (j : Int) | none => -1
theorem idxT_hit {l : List Tm} {x : Tm} {k : Nat} (hk : k < l.length) (hz : ∀ y ∈ l.take k, ¬ y = x) (e : l[k] = x) : l.findIdx? (· = x) = some k := by
  rw [List.findIdx?_eq_some_iff_getElem]
  refine ⟨hk, by simpa using e, fun j hj => ?_⟩
  have := hz l[j] (List.mem_take_iff_getElem.2 ⟨j, by omega, rfl⟩)
  simpa using this
theorem idxT_none {l : List Tm} {x : Tm} (hz : ∀ y ∈ l, ¬ y = x) : l.findIdx? (· = x) = none := by
  rw [List.findIdx?_eq_none_iff]
  intro y hy; simpa using hz y hy
theorem mem_take_next' {α : Type} {l : List α} {k : Nat} (hk : k < l.length) {P : α → Prop} (h : ∀ y ∈ l.take k, P y) (g : P l[k]) : ∀ y ∈ l.take (k + 1), P y := by
  rw [List.take_succ_eq_append_getElem hk]
  intro y hy
  rcases List.mem_append.1 hy with hy | hy
  · exact h y hy
  · simp at hy; subst hy; exact g
/-! ### the cells -/
def hc (few : List Int) (is : List Bool) (tail : List Value) : List Value := few.map (Value.int .u32) ++ (is.map Value.bool ++ tail)
theorem hc_few {few : List Int} {is : List Bool} {tail : List Value} {j oo : Nat} (hj : j < few.length) (ho : oo = j) : (hc few is tail)[oo]? = some (.int .u32 few[j]) := by
  subst ho
  unfold hc
  rw [List.getElem?_append_left (by simpa using hj)]
  simp [hj]
theorem hc_is {few : List Int} {is : List Bool} {tail : List Value} {j oo : Nat} (hj : j < is.length) (ho : oo = few.length + j) : (hc few is tail)[oo]? = some (.bool is[j]) := by
  subst ho
  unfold hc
  rw [List.getElem?_append_right (by simp), List.getElem?_append_left (by simpa using hj)]
  simp [hj]
theorem hc_tail {few : List Int} {is : List Bool} {tail : List Value} {j oo : Nat} {v : Value} (hj : tail[j]? = some v) (ho : oo = few.length + (is.length + j)) : (hc few is tail)[oo]? = some v := by
  subst ho
  unfold hc
  rw [List.getElem?_append_right (by simp), List.getElem?_append_right (by simp)]
  simp [hj]
theorem putS_one {l : List Value} {n : Nat} {v : Value} (h : n < l.length) : putS n [v] l = l.set n v := by
  unfold putS
  rw [List.set_eq_take_append_cons_drop]
  simp [h]
theorem hc_put_few {few : List Int} {is : List Bool} {tail : List Value} {j oo : Nat} {x : Int} (hj : j < few.length) (ho : oo = j) : putL oo [.int .u32 x] (hc few is tail) = some (hc (few.set j x) is tail) := by
  subst ho
  have hl : (hc few is tail).length = few.length + (is.length + tail.length) := by simp [hc]
  rw [putL_put _ _ _ (by rw [hl]; simp; omega), putS_one (by rw [hl]; omega)]
  unfold hc
  rw [List.set_append_left _ _ (by simpa using hj), List.map_set]
theorem hc_put_is {few : List Int} {is : List Bool} {tail : List Value} {j oo : Nat} {x : Bool} (hj : j < is.length) (ho : oo = few.length + j) : putL oo [.bool x] (hc few is tail) = some (hc few (is.set j x) tail) := by
  subst ho
  have hl : (hc few is tail).length = few.length + (is.length + tail.length) := by simp [hc]
  rw [putL_put _ _ _ (by rw [hl]; simp; omega), putS_one (by rw [hl]; omega)]
  unfold hc
  rw [List.set_append_right _ _ (by simp), List.set_append_left _ _ (by simpa using hj), List.map_set]
  simp
theorem hc_put_tail {few : List Int} {is : List Bool} {tail : List Value} {j oo : Nat} {v : Value} (hj : j < tail.length) (ho : oo = few.length + (is.length + j)) : putL oo [v] (hc few is tail) = some (hc few is (tail.set j v)) := by
  subst ho
  have hl : (hc few is tail).length = few.length + (is.length + tail.length) := by simp [hc]
  rw [putL_put _ _ _ (by rw [hl]; simp; omega), putS_one (by rw [hl]; omega)]
  unfold hc
  rw [List.set_append_right _ _ (by simp), List.set_append_right _ _ (by simp)]
  simp
theorem tm_eq (x y : Tm) : (x.v == y.v && (decide (x.n = y.n) && true)) = decide (y = x) := by
  obtain ⟨a, b⟩ := x
  obtain ⟨c, d⟩ := y
  by_cases h1 : a = c
  · by_cases h2 : b = d
    · simp [h1, h2]
    · simp [h1, h2, Ne.symm h2, eq_comm]
  · simp [h1, Ne.symm h1]
theorem st_new {few : List Int} {is : List Bool} {σ : Int → Option Int} {j : Nat} {n : Int} (hj : j < 16) (f1 : few.length = 16) (f2 : is.length = 16) (f3 : (if is[j]? = some true then few[j]? else none) = σ j) (g : is[j] = false) :
    decide (σ (j : Int) = none ∨ σ (j : Int) = some n) = true := by
  rw [← f3, List.getElem?_eq_getElem (by omega), g]; simp
theorem st_old {few : List Int} {is : List Bool} {σ : Int → Option Int} {j : Nat} {n : Int} (hj : j < 16) (f1 : few.length = 16) (f2 : is.length = 16) (f3 : (if is[j]? = some true then few[j]? else none) = σ j) (g : is[j] = true) :
    decide (σ (j : Int) = none ∨ σ (j : Int) = some n) = decide (few[j] = n) := by
  rw [← f3, List.getElem?_eq_getElem (by omega), g, List.getElem?_eq_getElem (by omega)]; simp
theorem sig_big {few : List Int} {is : List Bool} {many : List Tm} {by_ : List Int} {σ : Int → Option Int} {m : Nat} (h : HeldOk few is many by_ σ m) {x : Int} (hx : 16 ≤ x) : (many.findIdx? (· = ⟨true, x⟩)).bind (by_[·]?) = σ x := by
  have := h.so x (by omega)
  rwa [sig, if_neg (by omega)] at this
theorem upd_same {σ : Int → Option Int} {x n : Int} (h : σ x = some n) : σ = upd σ x n := by
  funext k
  unfold upd
  split
  · rename_i e; rw [e, h]
  · rfl
theorem idx_yes {l : List Tm} {x : Tm} (h : 0 ≤ idxT l x) : ∃ k, l.findIdx? (· = x) = some k ∧ idxT l x = k ∧ k < l.length := by
  unfold idxT at h ⊢
  cases e : l.findIdx? (· = x) with
  | none => rw [e] at h; simp at h
  | some k => exact ⟨k, rfl, rfl, findIdx_lt e⟩
theorem idx_no {l : List Tm} {x : Tm} (h : ¬ 0 ≤ idxT l x) : l.findIdx? (· = x) = none := by
  unfold idxT at h
  cases e : l.findIdx? (· = x) with
  | none => rfl
  | some k => rw [e] at h; simp at h
theorem hc_put_a {few : List Int} {is : List Bool} {u v x : Value} {oo : Nat} (ho : oo = few.length + (is.length + 0)) : putL oo [x] (hc few is [u, v]) = some (hc few is [x, v]) := hc_put_tail (j := 0) (by simp) ho
theorem hc_put_b {few : List Int} {is : List Bool} {u v x : Value} {oo : Nat} (ho : oo = few.length + (is.length + 1)) : putL oo [x] (hc few is [u, v]) = some (hc few is [u, x]) := hc_put_tail (j := 1) (by simp) ho
theorem held_zero : HeldOk (List.replicate 16 0) (List.replicate 16 false) [] [] (fun _ => none) 0 := ⟨rfl, rfl, rfl, by simp, fun n hn => by
  unfold sig
  split
  · rw [List.getElem?_replicate]; split <;> simp
  · rfl⟩
theorem same_no {l m : List Fa} {k : Nat} (h1 : k < l.length) (h2 : k < m.length) (h : ¬ cmpF l[k].p l[k].a m[k].p m[k].a = 0) : ¬ l = m := fun e => by
  subst e; exact h (cmpF_zero.2 rfl)
theorem same_yes {α : Type} {l m : List α} {k : Nat} (hl : l.length = m.length) (hk : l.length ≤ k) (h : l.take k = m.take k) : l = m := by
  rwa [List.take_of_length_le hk, List.take_of_length_le (by omega)] at h
def fewF (l : List Fa) : Bool := decide (l.length ≤ 300 ∧ ∀ x ∈ l, x.a.length ≤ 20)
theorem fewF_iff {l : List Fa} : fewF l = true ↔ l.length ≤ 300 ∧ ∀ x ∈ l, x.a.length ≤ 20 := by unfold fewF; rw [decide_eq_true_iff]
end Go.Proofs.Ytkhddfknpegpmaa.SL

/- Contracts of functions of the program (Matchs): what each call comes to, for the laws' proofs. -/
set_option linter.unusedVariables false
set_option linter.unusedSimpArgs false
namespace Go.Proofs.Ytkhddfknpegpmaa.SL
open Go 

set_option maxHeartbeats 2000000 in
set_option maxRecDepth 20000 in
theorem atomsKind (t : Tm) (n : Int) :
    Spec Try.prog 76 #[.agg #[.bool t.v, .int .u32 t.n], .int .u32 n] [] [] (fun v Ps' Os' => v = .int .i64 (if t.v then 2 else if t.n = n then 1 else 0) ∧ Ps' = [] ∧ Os' = []) := by
 refine spec_of (fn := Try.f76) (args := [.agg #[.bool t.v, .int .u32 t.n], .int .u32 n]) 13 Try.func76 rfl (by kernel_rfl) Try.ntmps76 (Nat.le_of_ble_eq_true rfl) (fun w0 hp0 hf0 => ?_)
 refine go_seq ?_
 refine go_region rfl ?_
 refine go_box Tk rfl rfl rfl rfl (by rfl) rfl rfl (fun h => nomatch h) ?_
 intro b1
 refine go_pure0 Tk rfl rfl rfl ?_
 refine go_nil ?_
 refine go_env [(1, _), (2, _)] ⟨rfl, rfl, trivial⟩ ?_
 iterate 7 first | refine go_seq ?_ | refine go_block ?_ | refine go_region rfl ?_ | refine go_pure0 Tk rfl rfl rfl ?_ | refine go_val0 rfl (ldv Tk rfl rfl rfl) rfl ?_
 refine go_nil ?_
 refine go_env [(1, _), (2, _), (5, _)] ⟨rfl, rfl, rfl, trivial⟩ ?_
 refine go_cond rfl ?_ ?_
 ·intro h1
  (try simp only [decide_eq_true_eq, decide_eq_false_iff_not, Bool.not_eq_true', Bool.not_eq_false', Bool.not_eq_eq_eq_not, Bool.not_true, Bool.not_false, Int.not_lt, Int.not_le, beq_iff_eq, beq_eq_false_iff_ne, ne_eq] at h1)
  refine go_seq ?_
  refine go_region rfl ?_
  refine go_pure0 Tk rfl rfl rfl ?_
  refine go_nil ?_
  refine go_env [(4, _)] ⟨rfl, trivial⟩ ?_
  refine go_ret ⟨rfl, rfl⟩ _ _ (res1 (by rfl) (.tmp rfl)) ⟨by rw [h1]; rfl, rfl, rfl⟩ (by repeat constructor) (by repeat constructor)
 ·intro h1
  (try simp only [decide_eq_true_eq, decide_eq_false_iff_not, Bool.not_eq_true', Bool.not_eq_false', Bool.not_eq_eq_eq_not, Bool.not_true, Bool.not_false, Int.not_lt, Int.not_le, beq_iff_eq, beq_eq_false_iff_ne, ne_eq] at h1)
  iterate 7 first | refine go_seq ?_ | refine go_region rfl ?_ | refine go_pure0 Tk rfl rfl rfl ?_ | refine go_val0 rfl (ldv Tk rfl rfl rfl) rfl ?_
  refine go_nil ?_
  refine go_env [(8, _)] ⟨rfl, trivial⟩ ?_
  refine go_cond rfl ?_ ?_
  ·intro h2
   (try simp only [decide_eq_true_eq, decide_eq_false_iff_not, Bool.not_eq_true', Bool.not_eq_false', Bool.not_eq_eq_eq_not, Bool.not_true, Bool.not_false, Int.not_lt, Int.not_le, beq_iff_eq, beq_eq_false_iff_ne, ne_eq] at h2)
   refine go_seq ?_
   refine go_region rfl ?_
   refine go_pure0 Tk rfl rfl rfl ?_
   refine go_nil ?_
   refine go_env [(4, _)] ⟨rfl, trivial⟩ ?_
   refine go_ret ⟨rfl, rfl⟩ _ _ (res1 (by rfl) (.tmp rfl)) ⟨by rw [h1, if_neg (by decide), if_pos h2], rfl, rfl⟩ (by repeat constructor) (by repeat constructor)
  ·intro h2
   (try simp only [decide_eq_true_eq, decide_eq_false_iff_not, Bool.not_eq_true', Bool.not_eq_false', Bool.not_eq_eq_eq_not, Bool.not_true, Bool.not_false, Int.not_lt, Int.not_le, beq_iff_eq, beq_eq_false_iff_ne, ne_eq] at h2)
   refine go_skip ?_
   refine go_blk ?_
   refine go_seq ?_
   refine go_region rfl ?_
   refine go_pure0 Tk rfl rfl rfl ?_
   refine go_nil ?_
   refine go_env [(4, _)] ⟨rfl, trivial⟩ ?_
   refine go_ret ⟨rfl, rfl⟩ _ _ (res1 (by rfl) (.tmp rfl)) ⟨by rw [h1, if_neg (by decide), if_neg h2], rfl, rfl⟩ (by repeat constructor) (by repeat constructor)

set_option maxHeartbeats 2000000 in
set_option maxRecDepth 20000 in
theorem indexTm (A : Option Addr) (c : Nat) (l : List Tm) (x : Tm) :
    Spec Try.prog 90 #[.slice A l.length c, .agg #[.bool x.v, .int .u32 x.n]] [sl tTm A c l] [] (fun v Ps' Os' => v = .int .i64 (idxT l x) ∧ Ps' = [] ∧ Os' = []) := by
 refine spec_of (fn := Try.f90) (args := [.slice A l.length c, .agg #[.bool x.v, .int .u32 x.n]]) 19 Try.func90 rfl (by kernel_rfl) Try.ntmps90 (Nat.le_of_ble_eq_true rfl) (fun w0 hp0 hf0 => ?_)
 refine go_seq ?_
 refine go_len (xs := l) (by repeat constructor) (fun l0 m0 => ?_)
 refine go_region rfl ?_
 refine go_box Tk rfl rfl rfl rfl (by rfl) rfl rfl (fun h => nomatch h) ?_
 intro b1
 refine go_pure0 Tk rfl rfl rfl ?_
 refine go_nil ?_
 refine go_env [(0, _), (3, _)] ⟨rfl, rfl, trivial⟩ ?_
 iterate 6 first | refine go_seq ?_ | refine go_region rfl ?_ | refine go_pure0 Tk rfl rfl rfl ?_
 refine go_nil ?_
 refine go_env [(0, _), (3, _), (7, _), (8, _)] ⟨rfl, rfl, rfl, rfl, trivial⟩ ?_
 refine go_block ?_
 refine go_loop' (X := Nat) (fun k => [(8, .int .i64 (k : Int))]) [(0, _), (3, _), (7, _)] (fun _ => []) (fun k => k ≤ l.length ∧ ∀ y ∈ l.take k, ¬ y = x) (fun k => l.length - k) (0) ⟨rfl, rfl, rfl, rfl, trivial⟩ (by repeat constructor) ⟨by omega, by simp⟩ ?_
 intro k ⟨hk, hz⟩
 refine go_seq ?_
 refine go_region rfl ?_
 refine go_pure0 Tk rfl rfl rfl ?_
 refine go_nil ?_
 refine go_env [(0, _), (3, _), (7, _), (8, _), (9, _)] ⟨rfl, rfl, rfl, rfl, rfl, trivial⟩ ?_
 refine go_seq ?_
 refine go_condD rfl ?_ ?_
 ·intro c1
  iterate 7 first | refine go_skip ?_ | refine go_seq ?_ | refine go_block ?_ | refine go_region rfl ?_ | refine go_pure0 Tk rfl rfl rfl ?_
  refine go_nil ?_
  refine go_env [(0, _), (3, _), (5, _), (7, _), (8, _)] ⟨rfl, rfl, rfl, rfl, rfl, trivial⟩ ?_
  refine go_seq ?_
  refine go_elem_tm (xs := l) (by repeat constructor) (k) (List.getElem?_eq_getElem (by omega)) (fun b o hA => ?_); cases hA
  refine go_draw'  [0, 4] (SL.pre [(1, 1), (1, 2), (1, 3), (2, 0), (2, 4), (1, 5)] .nil) mixed rfl (by kernel_rfl) ?_
  iterate 2 refine go_pure1 Tk rfl rfl rfl ?_
  refine go_val1 rfl (idx_val Tk rfl rfl rfl rfl rfl (by omega)) rfl ?_
  iterate 2 refine go_val2a rfl (ldv Tk rfl rfl rfl) rfl ?_
  refine go_val1 rfl (seq_val Tk rfl rfl rfl rfl (by rfl) rfl (by kernel_rfl) (by kernel_rfl)) rfl ?_
  refine go_re 16 (.bool (decide (l[k] = x))) (by show some (Value.bool _) = _; rw [tm_eq]) ?_
  refine go_nil ?_
  refine go_env [(0, _), (3, _), (5, _), (7, _), (8, _), (16, _)] ⟨rfl, rfl, rfl, rfl, rfl, rfl, trivial⟩ ?_
  refine go_cond rfl ?_ ?_
  ·intro c2
   (try simp only [decide_eq_true_eq, decide_eq_false_iff_not, Bool.not_eq_true', Bool.not_eq_false', Bool.not_eq_eq_eq_not, Bool.not_true, Bool.not_false, Int.not_lt, Int.not_le, beq_iff_eq, beq_eq_false_iff_ne, ne_eq] at c2)
   iterate 4 first | refine go_seq ?_ | refine go_region rfl ?_ | refine go_pure0 Tk rfl rfl rfl ?_
   refine go_nil ?_
   refine go_env [(4, _)] ⟨rfl, trivial⟩ ?_
   refine go_ret ⟨rfl, rfl⟩ _ _ (res1 (by rfl) (.tmp rfl)) ⟨by unfold idxT; rw [idxT_hit (by omega) hz c2], rfl, rfl⟩ (by repeat constructor) (by repeat constructor)
  ·intro c2
   (try simp only [decide_eq_true_eq, decide_eq_false_iff_not, Bool.not_eq_true', Bool.not_eq_false', Bool.not_eq_eq_eq_not, Bool.not_true, Bool.not_false, Int.not_lt, Int.not_le, beq_iff_eq, beq_eq_false_iff_ne, ne_eq] at c2)
   refine go_skip ?_
   refine go_blk ?_
   iterate 3 first | refine go_region rfl ?_ | refine go_pure0 Tk rfl rfl rfl ?_
   refine go_nil ?_
   refine go_i64 8 rfl (by omega) (by omega) ?_
   refine go_back (k + 1) ⟨rfl, rfl, rfl, rfl, trivial⟩ (by repeat constructor) (by repeat constructor) ⟨by omega, mem_take_next' (by omega) hz c2⟩ (by omega)
 ·intro c1
  refine go_exit rfl ?_
  refine go_seq ?_
  refine go_region rfl ?_
  refine go_pure0 Tk rfl rfl rfl ?_
  refine go_nil ?_
  refine go_env [(4, _)] ⟨rfl, trivial⟩ ?_
  refine go_ret ⟨rfl, rfl⟩ _ _ (res1 (by rfl) (.tmp rfl)) ⟨by unfold idxT; rw [idxT_none (by rw [List.take_of_length_le (by omega)] at hz; exact hz)], rfl, rfl⟩ (by repeat constructor) (by repeat constructor)

/-- What is held of variables, in memory. -/
def heldO (b : Nat) (σ : Int → Option Int) (m : Nat) : OA := OA.ex fun few : List Int => OA.ex fun is : List Bool => OA.ex fun many : List Tm => OA.ex fun by_ : List Int => OA.ex fun A1 : Option Addr => OA.ex fun c1 : Nat => OA.ex fun A2 : Option Addr => OA.ex fun c2 : Nat =>
  OA.and (HeldOk few is many by_ σ m) (OA.all [pt b 118 (hc few is [.slice A1 many.length c1, .slice A2 by_.length c2]), ol tTm 62 A1 c1 many, ol tU 22 A2 c2 by_])
theorem go_held {C : Ctx} {k : List It} {E : Env} {Ps : List PA} {Os : List OA} {b m : Nat} {σ : Int → Option Int} {rr : List OA} (h : Rem (heldO b σ m) Os rr)
    (g : ∀ few is many by_ A1 c1 A2 c2, HeldOk few is many by_ σ m → Go C k E Ps ([pt b 118 (hc few is [.slice A1 many.length c1, .slice A2 by_.length c2]), ol tTm 62 A1 c1 many, ol tU 22 A2 c2 by_] ++ rr)) : Go C k E Ps Os :=
  go_oex h fun few => go_oex .here fun is => go_oex .here fun many => go_oex .here fun by_ => go_oex .here fun A1 => go_oex .here fun c1 => go_oex .here fun A2 => go_oex .here fun c2 => go_oand .here fun hk => go_oall .here (g few is many by_ A1 c1 A2 c2 hk)
theorem heldO_mk {b m : Nat} {σ : Int → Option Int} {few : List Int} {is : List Bool} {many : List Tm} {by_ : List Int} {A1 : Option Addr} {c1 : Nat} {A2 : Option Addr} {c2 : Nat} (hk : HeldOk few is many by_ σ m) {hp h : Heap}
    (q : Sep hp [pt b 118 (hc few is [.slice A1 many.length c1, .slice A2 by_.length c2]), ol tTm 62 A1 c1 many, ol tU 22 A2 c2 by_] h) : (heldO b σ m).p hp h := ⟨few, is, many, by_, A1, c1, A2, c2, hk, q⟩
theorem held_more {few : List Int} {is : List Bool} {many : List Tm} {by_ : List Int} {σ : Int → Option Int} {m : Nat} (h : HeldOk few is many by_ σ m) : HeldOk few is many by_ σ (m + 1) := ⟨h.l1, h.l2, h.l3, by have := h.l4; omega, h.so⟩
theorem heldO_more {b m : Nat} {σ : Int → Option Int} {hp h : Heap} (q : (heldO b σ m).p hp h) : (heldO b σ (m + 1)).p hp h := by
  obtain ⟨few, is, many, by_, A1, c1, A2, c2, hk, q⟩ := q
  exact ⟨few, is, many, by_, A1, c1, A2, c2, held_more hk, q⟩

set_option maxHeartbeats 2000000 in
set_option maxRecDepth 20000 in
theorem standsSmall (b : Nat) (σ : Int → Option Int) (m : Nat) (j : Nat) (n : Int) (hj : j < 16) :
    Spec Try.prog 77 #[.pointer (some ⟨b, 0, none⟩), .agg #[.bool true, .int .u32 (j : Int)], .int .u32 n] [] [heldO b σ m] (fun v Ps' Os' => ∃ σ', v = .bool (decide (σ (j : Int) = none ∨ σ (j : Int) = some n)) ∧ ((σ (j : Int) = none ∨ σ (j : Int) = some n) → σ' = upd σ (j : Int) n) ∧ Ps' = [] ∧ Os' = [heldO b σ' (m + 1)]) := by
 refine spec_of (fn := Try.f77) (args := [.pointer (some ⟨b, 0, none⟩), .agg #[.bool true, .int .u32 (j : Int)], .int .u32 n]) 84 Try.func77 rfl (by kernel_rfl) Try.ntmps77 (Nat.le_of_ble_eq_true rfl) (fun w0 hp0 hf0 => ?_)
 refine go_seq ?_
 refine go_held (b := b) (by repeat constructor) (fun few is many by_ A1 c1 A2 c2 hk => ?_)
 have f1 := hk.l1
 have f2 := hk.l2
 have f3 := hk.so j (by omega)
 rw [sig, if_pos (by omega), Int.toNat_natCast] at f3
 refine go_region rfl ?_
 refine go_box Tk rfl rfl rfl rfl (by rfl) rfl rfl (fun h => nomatch h) ?_
 intro bt
 refine go_freeze_pt (b := bt) (by repeat constructor) ?_
 refine go_pure0 Tk rfl rfl rfl ?_
 refine go_nil ?_
 refine go_env [(0, _), (2, _), (4, _)] ⟨rfl, rfl, rfl, trivial⟩ ?_
 iterate 6 first | refine go_seq ?_ | refine go_region rfl ?_ | refine go_pure0 Tk rfl rfl rfl ?_ | refine go_val0 rfl (ldv Tk rfl rfl rfl) rfl ?_
 refine go_re 12 (.bool true) (by show some (Value.bool (decide _)) = _; rw [decide_eq_true (by omega)]) ?_
 refine go_nil ?_
 refine go_env [(0, _), (2, _), (4, _), (12, _)] ⟨rfl, rfl, rfl, rfl, trivial⟩ ?_
 refine go_cond_t rfl ?_
 refine go_seq ?_
 refine go_draw'  [2, 6] (SL.pre [(1, 0), (1, 1), (1, 3), (1, 4), (2, 2), (1, 5), (2, 6), (1, 7)] .nil) mixed rfl (by kernel_rfl) ?_
 iterate 5 first | refine go_pure1 Tk rfl rfl rfl ?_ | refine go_val2a rfl (ldv Tk rfl rfl rfl) rfl ?_
 refine go_val1 rfl (idxA_val Tk rfl rfl rfl rfl rfl (by omega)) rfl ?_
 refine go_val2a rfl (load_val (cs := [.int .u32 few[j]]) Tk rfl rfl rfl (at_one (by repeat constructor) (hc_few (by omega) (by show 0 + 0 + j * 1 = j; omega))) rfl) rfl ?_
 refine go_pure1 Tk rfl rfl rfl ?_
 refine go_nil ?_
 refine go_env [(0, _), (2, _), (4, _), (7, _)] ⟨rfl, rfl, rfl, rfl, trivial⟩ ?_
 refine go_seq ?_
 refine go_draw'  [2, 6] (SL.pre [(1, 0), (1, 1), (1, 3), (1, 4), (2, 2), (1, 5), (2, 6), (1, 7)] .nil) mixed rfl (by kernel_rfl) ?_
 iterate 5 first | refine go_pure1 Tk rfl rfl rfl ?_ | refine go_val2a rfl (ldv Tk rfl rfl rfl) rfl ?_
 refine go_val1 rfl (idxA_val Tk rfl rfl rfl rfl rfl (by omega)) rfl ?_
 refine go_val2a rfl (load_val (cs := [.bool is[j]]) Tk rfl rfl rfl (at_one (by repeat constructor) (hc_is (by omega) (by show 0 + 16 + j * 1 = _; omega))) rfl) rfl ?_
 refine go_pure1 Tk rfl rfl rfl ?_
 refine go_nil ?_
 refine go_env [(0, _), (2, _), (4, _), (7, _), (8, _)] ⟨rfl, rfl, rfl, rfl, rfl, trivial⟩ ?_
 refine go_seq ?_
 refine go_draw ([cl bt 0 [.bool true, .int .u32 (j : Int)]]) ([]) [2, 5] (SL.pre [(1, 0), (1, 1), (1, 3), (1, 4), (1, 6), (1, 7), (1, 8), (1, 11), (1, 12), (2, 2), (1, 9), (2, 5), (0, 10), (1, 13), (0, 14)] .nil) mixed rfl (by kernel_rfl) ?_
 iterate 10 first | refine go_pure1 Tk rfl rfl rfl ?_ | refine go_val2a rfl (ldv Tk rfl rfl rfl) rfl ?_
 refine go_val1 rfl (idxA_val Tk rfl rfl rfl rfl rfl (by omega)) rfl ?_
 refine go_val2a rfl (ldv Tk rfl rfl rfl) rfl ?_
 refine go_store Tk rfl rfl rfl rfl rfl rfl (by repeat constructor) rfl rfl (hc_put_few (j := j) (by omega) (by show 0 + 0 + j * 1 = j; omega)) (fun _ => satS (by repeat constructor) (by repeat constructor)) ?_
 refine go_val1 rfl (idxA_val Tk rfl rfl rfl rfl rfl (by omega)) rfl ?_
 refine go_store Tk rfl rfl rfl rfl rfl rfl (by repeat constructor) rfl rfl (hc_put_is (j := j) (by omega) (by show 0 + 16 + j * 1 = _; rw [List.length_set]; omega)) (fun h => nomatch h) ?_
 refine go_nil ?_
 refine go_fold [pt b 118 (hc (few.set j n) (is.set j true) [.slice A1 (many).length c1, .slice A2 (by_).length c2]), ol tTm 62 A1 c1 (many), ol tU 22 A2 c2 (by_)] (heldO b (upd σ j n) (m + 1)) (by repeat constructor) (fun _ _ q => heldO_mk (held_more (held_small hk hj n)) q) ?_
 refine go_env [(2, _), (7, _), (8, _)] ⟨rfl, rfl, rfl, trivial⟩ ?_
 iterate 5 first | refine go_seq ?_ | refine go_region rfl ?_ | refine go_pure0 Tk rfl rfl rfl ?_
 refine go_known 42 rfl ?_ ?_
 ·intro g1
  (try simp only [decide_eq_true_eq, decide_eq_false_iff_not, Bool.not_eq_true', Bool.not_eq_false', Bool.not_eq_eq_eq_not, Bool.not_true, Bool.not_false, Int.not_lt, Int.not_le, beq_iff_eq, beq_eq_false_iff_ne, ne_eq] at g1)
  iterate 5 first | refine go_skip0 rfl rfl ?_ | refine go_pure0 Tk rfl rfl rfl ?_
  refine go_nil ?_
  refine go_env [(6, _)] ⟨rfl, trivial⟩ ?_
  refine go_ret ⟨rfl, rfl⟩ _ _ (res1 (by rfl) (.tmp rfl)) ⟨upd σ j n, congrArg Value.bool (st_new hj f1 f2 f3 g1).symm, fun _ => rfl, rfl, rfl⟩ (by repeat constructor) (by repeat constructor)
 ·intro g1
  (try simp only [decide_eq_true_eq, decide_eq_false_iff_not, Bool.not_eq_true', Bool.not_eq_false', Bool.not_eq_eq_eq_not, Bool.not_true, Bool.not_false, Int.not_lt, Int.not_le, beq_iff_eq, beq_eq_false_iff_ne, ne_eq] at g1)
  iterate 5 refine go_pure0 Tk rfl rfl rfl ?_
  refine go_nil ?_
  refine go_env [(6, _)] ⟨rfl, trivial⟩ ?_
  refine go_ret ⟨rfl, rfl⟩ _ _ (res1 (by rfl) (.tmp rfl)) ⟨upd σ j n, congrArg Value.bool (st_old hj f1 f2 f3 g1).symm, fun _ => rfl, rfl, rfl⟩ (by repeat constructor) (by repeat constructor)

set_option maxHeartbeats 2000000 in
set_option maxRecDepth 20000 in
theorem standsBig (b : Nat) (σ : Int → Option Int) (m : Nat) (x n : Int) (hx : 16 ≤ x) (hm : m ≤ 1000000) :
    Spec Try.prog 77 #[.pointer (some ⟨b, 0, none⟩), .agg #[.bool true, .int .u32 x], .int .u32 n] [] [heldO b σ m] (fun v Ps' Os' => ∃ σ', v = .bool (decide (σ x = none ∨ σ x = some n)) ∧ ((σ x = none ∨ σ x = some n) → σ' = upd σ x n) ∧ Ps' = [] ∧ Os' = [heldO b σ' (m + 1)]) := by
 refine spec_of (fn := Try.f77) (args := [.pointer (some ⟨b, 0, none⟩), .agg #[.bool true, .int .u32 x], .int .u32 n]) 84 Try.func77 rfl (by kernel_rfl) Try.ntmps77 (Nat.le_of_ble_eq_true rfl) (fun w0 hp0 hf0 => ?_)
 refine go_seq ?_
 refine go_held (b := b) (by repeat constructor) (fun few is many by_ A1 c1 A2 c2 hk => ?_)
 have f1 := hk.l1
 have f2 := hk.l2
 have f4 := hk.l4
 have f5 := hk.l3
 have f3 := sig_big hk hx
 refine go_region rfl ?_
 refine go_box Tk rfl rfl rfl rfl (by rfl) rfl rfl (fun h => nomatch h) ?_
 intro bt
 refine go_freeze_pt (b := bt) (by repeat constructor) ?_
 refine go_pure0 Tk rfl rfl rfl ?_
 refine go_nil ?_
 refine go_env [(0, _), (2, _), (4, _)] ⟨rfl, rfl, rfl, trivial⟩ ?_
 iterate 6 first | refine go_seq ?_ | refine go_region rfl ?_ | refine go_pure0 Tk rfl rfl rfl ?_ | refine go_val0 rfl (ldv Tk rfl rfl rfl) rfl ?_
 refine go_re 12 (.bool false) (by show some (Value.bool (decide _)) = _; rw [decide_eq_false (by omega)]) ?_
 refine go_nil ?_
 refine go_env [(0, _), (2, _), (4, _), (12, _)] ⟨rfl, rfl, rfl, rfl, trivial⟩ ?_
 refine go_cond_f rfl ?_
 refine go_skip ?_
 refine go_seq ?_
 refine go_seq ?_
 refine go_draw'  [3, 4] (SL.pre [(1, 0), (1, 1), (1, 2), (2, 3), (2, 4), (0, 5), (1, 6)] .nil) mixed rfl (by kernel_rfl) ?_
 iterate 3 refine go_pure1 Tk rfl rfl rfl ?_
 refine go_val2a rfl (load_val (cs := [.slice A1 many.length c1]) Tk rfl rfl rfl (at_one (by repeat constructor) (hc_tail (j := 0) rfl (by show 0 + 32 = _; omega))) rfl) rfl ?_
 refine go_val2a rfl (ldv Tk rfl rfl rfl) rfl ?_
 refine go_call ((indexTm A1 c1 many ⟨true, x⟩).ownl (e := 62)) rfl rfl (by rfl) rfl (by repeat constructor) (by repeat constructor) (fun h => nomatch h) ?_
 rintro _ _ _ ⟨rfl, rfl, rfl⟩
 refine go_pure1 Tk rfl rfl rfl ?_
 refine go_nil ?_
 refine go_env [(0, _), (2, _), (4, _), (9, _)] ⟨rfl, rfl, rfl, rfl, trivial⟩ ?_
 iterate 4 first | refine go_seq ?_ | refine go_region rfl ?_ | refine go_pure0 Tk rfl rfl rfl ?_
 refine go_nil ?_
 refine go_env [(0, _), (2, _), (4, _), (9, _), (54, _)] ⟨rfl, rfl, rfl, rfl, rfl, trivial⟩ ?_
 refine go_condD rfl ?_ ?_
 ·intro hc1
  obtain ⟨k, e1, e2, e3⟩ := idx_yes hc1
  refine go_re 9 (.int .i64 (k : Int)) (by show some (Value.int _ _) = _; rw [e2]) ?_
  refine go_ol_addr (xs := by_) (by repeat constructor) (by omega) (fun b2 hA => ?_); subst hA
  iterate 5 first | refine go_seq ?_ | refine go_region rfl ?_ | refine go_pure0 Tk rfl rfl rfl ?_
  refine go_val0 rfl (load_val (cs := [.slice (some ⟨b2, 0, none⟩) by_.length c2]) Tk rfl rfl rfl (at_one (by repeat constructor) (hc_tail (j := 1) rfl (by show 0 + 33 = _; omega))) rfl) rfl ?_
  refine go_pure0 Tk rfl rfl rfl ?_
  refine go_val0 rfl (idx_val Tk rfl rfl rfl rfl rfl (by omega)) rfl ?_
  refine go_val0 rfl (load_val (cs := [.int .u32 by_[k]]) Tk rfl rfl rfl (at_ol (fun y : Int => [.int .u32 y]) fc_int 0 (xs := by_) (by repeat constructor) (List.getElem?_eq_getElem (by omega)) rfl) rfl) rfl ?_
  iterate 3 refine go_pure0 Tk rfl rfl rfl ?_
  refine go_nil ?_
  refine go_fold [pt b 118 (hc (few) (is) [.slice A1 (many).length c1, .slice (some ⟨b2, 0, none⟩) (by_).length c2]), ol tTm 62 A1 c1 (many), ol tU 22 (some ⟨b2, 0, none⟩) c2 (by_)] (heldO b (σ) (m + 1)) (by repeat constructor) (fun _ _ q => heldO_mk (held_more hk) q) ?_
  refine go_env [(6, _)] ⟨rfl, trivial⟩ ?_
  refine go_ret ⟨rfl, rfl⟩ _ _ (res1 (by rfl) (.tmp rfl)) ⟨σ, by rw [show σ x = some by_[k] by rw [← f3, e1]; simp [List.getElem?_eq_getElem (show k < by_.length by omega)]]; simp, fun hs => upd_same (hs.resolve_left (by rw [← f3, e1]; simp [List.getElem?_eq_getElem (show k < by_.length by omega)])), rfl, rfl⟩ (by repeat constructor) (by repeat constructor)
 ·intro hc1
  have e1 := idx_no hc1
  refine go_skip ?_
  refine go_seq ?_
  refine go_draw ([cl bt 0 [.bool true, .int .u32 x]]) ([pt b 118 (hc few is [.slice A1 many.length c1, .slice A2 by_.length c2])]) [5, 6, 12] (SL.pre [(1, 0), (1, 1), (1, 2), (1, 3), (1, 4), (1, 9), (1, 10), (1, 11), (1, 13), (2, 5), (2, 6), (2, 12)] (.two (SL.pre [(0, 7)] (.two (SL.pre [(0, 8), (0, 14), (0, 15), (1, 16), (1, 17), (0, 18), (1, 19), (1, 20), (0, 21)] .nil) (SL.pre [(0, 14), (0, 8), (0, 15), (1, 16), (1, 17), (0, 18), (1, 19), (1, 20), (0, 21)] .nil))) (SL.pre [(0, 14), (0, 7), (0, 8), (0, 15), (1, 16), (1, 17), (0, 18), (1, 19), (1, 20), (0, 21)] .nil))) mixed rfl (by kernel_rfl) ?_
  iterate 9 refine go_pure1 Tk rfl rfl rfl ?_
  refine go_val2a rfl (load_val (cs := [.slice A1 many.length c1]) Tk rfl rfl rfl (at_one (by repeat constructor) (hc_tail (j := 0) rfl (by show 0 + 32 = _; omega))) rfl) rfl ?_
  refine go_val2a rfl (ldv Tk rfl rfl rfl) rfl ?_
  refine go_val2a rfl (load_val (cs := [.slice A2 by_.length c2]) Tk rfl rfl rfl (at_one (by repeat constructor) (hc_tail (j := 1) rfl (by show 0 + 33 = _; omega))) rfl) rfl ?_
  refine go_two ?_ ?_
  ·skip
   refine go_bslice Tk rfl rfl rfl rfl rfl rfl rfl rfl (fun _ _ => satA) ?_
   intro bm
   refine go_two ?_ ?_
   ·skip
    refine go_append1 (T := tTm) (xs := many) Tk (⟨true, x⟩ : Tm) rfl rfl rfl rfl rfl rfl rfl rfl rfl (by repeat constructor) (by repeat constructor) rfl ent_tm (by omega) (fun _ _ _ => satS (by repeat constructor) (by repeat constructor)) ?_
    intro A3 c3
    refine go_bslice Tk rfl rfl rfl rfl rfl rfl rfl rfl (fun _ _ => satA) ?_
    intro bb
    refine go_append1 (T := tU) (xs := by_) Tk n rfl rfl rfl rfl rfl rfl rfl rfl rfl (by repeat constructor) (by repeat constructor) rfl ent_int (by omega) (fun _ _ _ => satS (by repeat constructor) (by repeat constructor)) ?_
    intro A4 c4
    iterate 2 refine go_pure1 Tk rfl rfl rfl ?_
    refine go_store Tk rfl rfl rfl rfl rfl rfl (by repeat constructor) rfl rfl (hc_put_a (by show 0 + 32 = _; omega)) (fun h => nomatch (Eq.symm h).trans (show _ = false by kernel_rfl)) ?_
    iterate 2 refine go_pure1 Tk rfl rfl rfl ?_
    refine go_store Tk rfl rfl rfl rfl rfl rfl (by repeat constructor) rfl rfl (hc_put_b (by show 0 + 33 = _; omega)) (fun h => nomatch (Eq.symm h).trans (show _ = false by kernel_rfl)) ?_
    refine go_nil ?_
    refine go_fold [pt b 118 (hc (few) (is) [.slice A3 (many ++ [(⟨true, x⟩ : Tm)]).length c3, .slice A4 (by_ ++ [n]).length c4]), ol tTm 62 A3 c3 (many ++ [(⟨true, x⟩ : Tm)]), ol tU 22 A4 c4 (by_ ++ [n])] (heldO b (upd σ x n) (m + 1)) (by repeat constructor) (fun _ _ q => heldO_mk (held_new hk (by omega) e1 n) q) ?_
    refine go_env [] trivial ?_
    refine go_seq ?_
    refine go_region rfl ?_
    refine go_pure0 Tk rfl rfl rfl ?_
    refine go_nil ?_
    refine go_env [(6, _)] ⟨rfl, trivial⟩ ?_
    refine go_ret ⟨rfl, rfl⟩ _ _ (res1 (by rfl) (.tmp rfl)) ⟨upd σ x n, by rw [show σ x = none by rw [← f3, e1]; rfl]; simp, fun _ => rfl, rfl, rfl⟩ (by repeat constructor) (by repeat constructor)
   refine go_bslice Tk rfl rfl rfl rfl rfl rfl rfl rfl (fun _ _ => satA) ?_
   intro bb
   refine go_append1 (T := tTm) (xs := many) Tk (⟨true, x⟩ : Tm) rfl rfl rfl rfl rfl rfl rfl rfl rfl (by repeat constructor) (by repeat constructor) rfl ent_tm (by omega) (fun _ _ _ => satS (by repeat constructor) (by repeat constructor)) ?_
   intro A3 c3
   refine go_append1 (T := tU) (xs := by_) Tk n rfl rfl rfl rfl rfl rfl rfl rfl rfl (by repeat constructor) (by repeat constructor) rfl ent_int (by omega) (fun _ _ _ => satS (by repeat constructor) (by repeat constructor)) ?_
   intro A4 c4
   iterate 2 refine go_pure1 Tk rfl rfl rfl ?_
   refine go_store Tk rfl rfl rfl rfl rfl rfl (by repeat constructor) rfl rfl (hc_put_a (by show 0 + 32 = _; omega)) (fun h => nomatch (Eq.symm h).trans (show _ = false by kernel_rfl)) ?_
   iterate 2 refine go_pure1 Tk rfl rfl rfl ?_
   refine go_store Tk rfl rfl rfl rfl rfl rfl (by repeat constructor) rfl rfl (hc_put_b (by show 0 + 33 = _; omega)) (fun h => nomatch (Eq.symm h).trans (show _ = false by kernel_rfl)) ?_
   refine go_nil ?_
   refine go_fold [pt b 118 (hc (few) (is) [.slice A3 (many ++ [(⟨true, x⟩ : Tm)]).length c3, .slice A4 (by_ ++ [n]).length c4]), ol tTm 62 A3 c3 (many ++ [(⟨true, x⟩ : Tm)]), ol tU 22 A4 c4 (by_ ++ [n])] (heldO b (upd σ x n) (m + 1)) (by repeat constructor) (fun _ _ q => heldO_mk (held_new hk (by omega) e1 n) q) ?_
   refine go_env [] trivial ?_
   refine go_seq ?_
   refine go_region rfl ?_
   refine go_pure0 Tk rfl rfl rfl ?_
   refine go_nil ?_
   refine go_env [(6, _)] ⟨rfl, trivial⟩ ?_
   refine go_ret ⟨rfl, rfl⟩ _ _ (res1 (by rfl) (.tmp rfl)) ⟨upd σ x n, by rw [show σ x = none by rw [← f3, e1]; rfl]; simp, fun _ => rfl, rfl, rfl⟩ (by repeat constructor) (by repeat constructor)
  refine go_bslice Tk rfl rfl rfl rfl rfl rfl rfl rfl (fun _ _ => satA) ?_
  intro bb
  refine go_bslice Tk rfl rfl rfl rfl rfl rfl rfl rfl (fun _ _ => satA) ?_
  intro bm
  refine go_append1 (T := tTm) (xs := many) Tk (⟨true, x⟩ : Tm) rfl rfl rfl rfl rfl rfl rfl rfl rfl (by repeat constructor) (by repeat constructor) rfl ent_tm (by omega) (fun _ _ _ => satS (by repeat constructor) (by repeat constructor)) ?_
  intro A3 c3
  refine go_append1 (T := tU) (xs := by_) Tk n rfl rfl rfl rfl rfl rfl rfl rfl rfl (by repeat constructor) (by repeat constructor) rfl ent_int (by omega) (fun _ _ _ => satS (by repeat constructor) (by repeat constructor)) ?_
  intro A4 c4
  iterate 2 refine go_pure1 Tk rfl rfl rfl ?_
  refine go_store Tk rfl rfl rfl rfl rfl rfl (by repeat constructor) rfl rfl (hc_put_a (by show 0 + 32 = _; omega)) (fun h => nomatch (Eq.symm h).trans (show _ = false by kernel_rfl)) ?_
  iterate 2 refine go_pure1 Tk rfl rfl rfl ?_
  refine go_store Tk rfl rfl rfl rfl rfl rfl (by repeat constructor) rfl rfl (hc_put_b (by show 0 + 33 = _; omega)) (fun h => nomatch (Eq.symm h).trans (show _ = false by kernel_rfl)) ?_
  refine go_nil ?_
  refine go_fold [pt b 118 (hc (few) (is) [.slice A3 (many ++ [(⟨true, x⟩ : Tm)]).length c3, .slice A4 (by_ ++ [n]).length c4]), ol tTm 62 A3 c3 (many ++ [(⟨true, x⟩ : Tm)]), ol tU 22 A4 c4 (by_ ++ [n])] (heldO b (upd σ x n) (m + 1)) (by repeat constructor) (fun _ _ q => heldO_mk (held_new hk (by omega) e1 n) q) ?_
  refine go_env [] trivial ?_
  refine go_seq ?_
  refine go_region rfl ?_
  refine go_pure0 Tk rfl rfl rfl ?_
  refine go_nil ?_
  refine go_env [(6, _)] ⟨rfl, trivial⟩ ?_
  refine go_ret ⟨rfl, rfl⟩ _ _ (res1 (by rfl) (.tmp rfl)) ⟨upd σ x n, by rw [show σ x = none by rw [← f3, e1]; rfl]; simp, fun _ => rfl, rfl, rfl⟩ (by repeat constructor) (by repeat constructor)

end Go.Proofs.Ytkhddfknpegpmaa.SL

/- Contracts of functions of the program (Matcht): what each call comes to, for the laws' proofs. -/
set_option linter.unusedVariables false
set_option linter.unusedSimpArgs false
namespace Go.Proofs.Ytkhddfknpegpmaa.SL
open Go 

theorem stands (b : Nat) (σ : Int → Option Int) (m : Nat) (t : Tm) (n : Int) (hv : t.v = true) (h0 : 0 ≤ t.n) (hm : m ≤ 1000000) : Spec Try.prog 77 #[.pointer (some ⟨b, 0, none⟩), .agg #[.bool t.v, .int .u32 t.n], .int .u32 n] [] [heldO b σ m]
    (fun v Ps' Os' => ∃ σ', v = .bool (decide (σ t.n = none ∨ σ t.n = some n)) ∧ ((σ t.n = none ∨ σ t.n = some n) → σ' = upd σ t.n n) ∧ Ps' = [] ∧ Os' = [heldO b σ' (m + 1)]) := by
  obtain ⟨v, x⟩ := t
  simp only at hv h0 ⊢
  subst hv
  by_cases hx : 16 ≤ x
  · exact standsBig b σ m x n hx hm
  · obtain ⟨j, rfl⟩ := Int.eq_ofNat_of_zero_le h0
    exact standsSmall b σ m j n (by omega)

set_option maxHeartbeats 2000000 in
set_option maxRecDepth 20000 in
theorem atomsMatch (a : Am) (AA : Option Addr) (ac : Nat) (f : Fa) (FA : Option Addr) (fc : Nat) (ha : ∀ t ∈ a.a, 0 ≤ t.n) (hn : a.a.length ≤ 1000000) :
    Spec Try.prog 61 #[.agg #[.int .u32 a.p, .slice AA a.a.length ac], .agg #[.int .u32 f.p, .slice FA f.a.length fc]] [sl tTm AA ac a.a, sl tU FA fc f.a] [] (fun v Ps' Os' => v = .bool (mtch a f) ∧ Ps' = [] ∧ Os' = []) := by
 refine spec_of (fn := Try.f61) (args := [.agg #[.int .u32 a.p, .slice AA a.a.length ac], .agg #[.int .u32 f.p, .slice FA f.a.length fc]]) 53 Try.func61 rfl (by kernel_rfl) Try.ntmps61 (Nat.le_of_ble_eq_true rfl) (fun w0 hp0 hf0 => ?_)
 refine go_seq ?_
 refine go_region rfl ?_
 refine go_box Tk rfl rfl rfl rfl (by rfl) rfl rfl (fun h => nomatch h) ?_
 intro b1
 refine go_box Tk rfl rfl rfl rfl (by rfl) rfl rfl (fun h => nomatch h) ?_
 intro b2
 refine go_pure0 Tk rfl rfl rfl ?_
 refine go_nil ?_
 refine go_env [(2, _), (3, _)] ⟨rfl, rfl, trivial⟩ ?_
 iterate 2 refine go_seq ?_
 refine go_len (xs := a.a) (by repeat constructor) (fun la ma => ?_)
 refine go_len (xs := f.a) (by repeat constructor) (fun lf mf => ?_)
 iterate 7 first | refine go_region rfl ?_ | refine go_pure0 Tk rfl rfl rfl ?_ | refine go_val0 rfl (ldv Tk rfl rfl rfl) rfl ?_
 refine go_known 14 rfl ?_ ?_
 ·intro g1
  (try simp only [decide_eq_true_eq, decide_eq_false_iff_not, Bool.not_eq_true', Bool.not_eq_false', Bool.not_eq_eq_eq_not, Bool.not_true, Bool.not_false, Int.not_lt, Int.not_le, beq_iff_eq, beq_eq_false_iff_ne, ne_eq] at g1)
  iterate 8 first | refine go_skip0 rfl rfl ?_ | refine go_pure0 Tk rfl rfl rfl ?_
  refine go_nil ?_
  refine go_env [(2, _), (3, _), (22, _)] ⟨rfl, rfl, rfl, trivial⟩ ?_
  refine go_cond_t rfl ?_
  refine go_seq ?_
  refine go_region rfl ?_
  refine go_pure0 Tk rfl rfl rfl ?_
  refine go_nil ?_
  refine go_env [(4, _)] ⟨rfl, trivial⟩ ?_
  refine go_ret ⟨rfl, rfl⟩ _ _ (res1 (by rfl) (.tmp rfl)) ⟨by rw [mtch_no (fun h _ => g1 h)], rfl, rfl⟩ (by repeat constructor) (by repeat constructor)
 ·intro g1
  (try simp only [decide_eq_true_eq, decide_eq_false_iff_not, Bool.not_eq_true', Bool.not_eq_false', Bool.not_eq_eq_eq_not, Bool.not_true, Bool.not_false, Int.not_lt, Int.not_le, beq_iff_eq, beq_eq_false_iff_ne, ne_eq] at g1)
  iterate 8 first | refine go_pure0 Tk rfl rfl rfl ?_ | refine go_val0 rfl (ldv Tk rfl rfl rfl) rfl ?_
  refine go_nil ?_
  refine go_env [(2, _), (3, _), (22, _)] ⟨rfl, rfl, rfl, trivial⟩ ?_
  refine go_cond rfl ?_ ?_
  ·intro g2
   (try simp only [decide_eq_true_eq, decide_eq_false_iff_not, Bool.not_eq_true', Bool.not_eq_false', Bool.not_eq_eq_eq_not, Bool.not_true, Bool.not_false, Int.not_lt, Int.not_le, beq_iff_eq, beq_eq_false_iff_ne, ne_eq] at g2)
   refine go_seq ?_
   refine go_region rfl ?_
   refine go_pure0 Tk rfl rfl rfl ?_
   refine go_nil ?_
   refine go_env [(4, _)] ⟨rfl, trivial⟩ ?_
   refine go_ret ⟨rfl, rfl⟩ _ _ (res1 (by rfl) (.tmp rfl)) ⟨by rw [mtch_no (fun _ h => g2 (by exact_mod_cast h))], rfl, rfl⟩ (by repeat constructor) (by repeat constructor)
  ·intro g2
   (try simp only [decide_eq_true_eq, decide_eq_false_iff_not, Bool.not_eq_true', Bool.not_eq_false', Bool.not_eq_eq_eq_not, Bool.not_true, Bool.not_false, Int.not_lt, Int.not_le, beq_iff_eq, beq_eq_false_iff_ne, ne_eq] at g2)
   refine go_skip ?_
   refine go_seq ?_
   have hl : a.a.length = f.a.length := by omega
   refine go_region rfl ?_
   refine go_alloc Tk rfl rfl rfl (by rfl) rfl rfl (fun h => nomatch h) ?_
   intro bh
   refine go_own_nil tTm 62 none ?_
   refine go_own_nil tU 22 none ?_
   refine go_fold [pt bh 118 (hc (List.replicate 16 0) (List.replicate 16 false) [.slice none 0 0, .slice none 0 0]), ol tTm 62 none 0 [], ol tU 22 none 0 []] (heldO bh (fun _ => none) 0) (by repeat constructor) (fun _ _ q => heldO_mk held_zero q) ?_
   refine go_nil ?_
   refine go_env [(2, _), (3, _), (5, _)] ⟨rfl, rfl, rfl, trivial⟩ ?_
   iterate 7 first | refine go_seq ?_ | refine go_region rfl ?_ | refine go_pure0 Tk rfl rfl rfl ?_ | refine go_val0 rfl (ldv Tk rfl rfl rfl) rfl ?_
   refine go_nil ?_
   refine go_env [(3, _), (5, _), (24, _), (25, _), (26, _)] ⟨rfl, rfl, rfl, rfl, rfl, trivial⟩ ?_
   refine go_block ?_
   refine go_loop' (X := Nat × (Int → Option Int)) (fun x => [(26, .int .i64 (x.1 : Int))]) [(3, _), (5, _), (24, _), (25, _)] (fun x => [heldO bh x.2 x.1]) (fun x => x.1 ≤ a.a.length ∧ inv x.2 a.a f.a x.1) (fun x => a.a.length - x.1) ((0, fun _ => none)) ⟨rfl, rfl, rfl, rfl, rfl, trivial⟩ (by repeat constructor) ⟨by omega, inv_zero _ _⟩ ?_
   intro ⟨k, σ⟩ ⟨hk, hi⟩
   simp only at hk hi ⊢
   refine go_seq ?_
   refine go_region rfl ?_
   refine go_pure0 Tk rfl rfl rfl ?_
   refine go_nil ?_
   refine go_env [(3, _), (5, _), (24, _), (25, _), (26, _), (27, _)] ⟨rfl, rfl, rfl, rfl, rfl, rfl, trivial⟩ ?_
   refine go_seq ?_
   refine go_condD rfl ?_ ?_
   ·intro c1
    iterate 4 first | refine go_skip ?_ | refine go_seq ?_ | refine go_block ?_
    refine go_elem_tm (xs := a.a) (by repeat constructor) (k) (List.getElem?_eq_getElem (by omega)) (fun b5 o5 hA => ?_); cases hA
    refine go_region rfl ?_
    refine go_pure0 Tk rfl rfl rfl ?_
    refine go_val0 rfl (idx_val Tk rfl rfl rfl rfl rfl (by omega)) rfl ?_
    refine go_val0 rfl (ldv Tk rfl rfl rfl) rfl ?_
    refine go_alloc Tk rfl rfl rfl (by rfl) rfl rfl (fun h => nomatch h) ?_
    intro b3
    refine go_pure0 Tk rfl rfl rfl ?_
    refine go_store Tk rfl rfl rfl rfl rfl rfl (by repeat constructor) rfl rfl (by rfl) (fun h => nomatch h) ?_
    refine go_nil ?_
    refine go_env [(3, _), (5, _), (6, _), (7, _), (24, _), (25, _), (26, _)] ⟨rfl, rfl, rfl, rfl, rfl, rfl, rfl, trivial⟩ ?_
    refine go_seq ?_
    refine go_region rfl ?_
    refine go_pure0 Tk rfl rfl rfl ?_
    refine go_nil ?_
    refine go_env [(3, _), (5, _), (6, _), (7, _), (8, _), (24, _), (25, _), (26, _)] ⟨rfl, rfl, rfl, rfl, rfl, rfl, rfl, rfl, trivial⟩ ?_
    iterate 2 refine go_seq ?_
    refine go_elem_int (xs := f.a) (by repeat constructor) (k) (List.getElem?_eq_getElem (by omega)) (fun b6 o6 hA => ?_); cases hA
    refine go_draw'  [0, 2, 5] (SL.pre [(1, 1), (1, 3), (2, 0), (2, 2), (1, 4), (2, 5), (0, 6)] .nil) mixed rfl (by kernel_rfl) ?_
    iterate 4 first | refine go_pure1 Tk rfl rfl rfl ?_ | refine go_val2a rfl (ldv Tk rfl rfl rfl) rfl ?_
    refine go_val1 rfl (idx_val Tk rfl rfl rfl rfl rfl (by omega)) rfl ?_
    refine go_val2a rfl (ldv Tk rfl rfl rfl) rfl ?_
    refine go_call (atomsKind a.a[k] f.a[k]) rfl rfl (by rfl) rfl (by repeat constructor) (by repeat constructor) (fun h => nomatch h) ?_
    rintro _ _ _ ⟨rfl, rfl, rfl⟩
    refine go_nil ?_
    refine go_env [(3, _), (5, _), (6, _), (7, _), (8, _), (24, _), (25, _), (26, _), (37, _)] ⟨rfl, rfl, rfl, rfl, rfl, rfl, rfl, rfl, rfl, trivial⟩ ?_
    iterate 8 first | refine go_block ?_ | refine go_seq ?_
    by_cases hv : a.a[k].v = true
    ·skip
     refine go_re 37 (.int .i64 2) (by show some (Value.int _ _) = _; rw [hv]; rfl) ?_
     refine go_region rfl ?_
     refine go_pure0 Tk rfl rfl rfl ?_
     refine go_re 39 (.bool true) rfl ?_
     refine go_pure0 Tk rfl rfl rfl ?_
     refine go_nil ?_
     refine go_env [(3, _), (5, _), (6, _), (7, _), (8, _), (24, _), (25, _), (26, _), (37, _), (38, _)] ⟨rfl, rfl, rfl, rfl, rfl, rfl, rfl, rfl, rfl, rfl, trivial⟩ ?_
     refine go_cond_t rfl ?_
     refine go_exit rfl ?_
     refine go_seq ?_
     refine go_draw'  [0, 2, 5] (SL.pre [(1, 1), (1, 3), (2, 0), (2, 2), (1, 4), (2, 5), (0, 6), (1, 7)] .nil) mixed rfl (by kernel_rfl) ?_
     iterate 4 first | refine go_pure1 Tk rfl rfl rfl ?_ | refine go_val2a rfl (ldv Tk rfl rfl rfl) rfl ?_
     refine go_val1 rfl (idx_val Tk rfl rfl rfl rfl rfl (by omega)) rfl ?_
     refine go_val2a rfl (ldv Tk rfl rfl rfl) rfl ?_
     refine go_call (stands bh σ k a.a[k] f.a[k] hv (ha _ (List.getElem_mem _)) (by omega)) rfl rfl (by rfl) rfl (by repeat constructor) (by repeat constructor) (fun h => nomatch h) ?_
     rintro _ _ _ ⟨σ', rfl, hσ, rfl, rfl⟩
     refine go_pure1 Tk rfl rfl rfl ?_
     refine go_nil ?_
     refine go_env [(3, _), (5, _), (24, _), (25, _), (26, _), (49, _)] ⟨rfl, rfl, rfl, rfl, rfl, rfl, trivial⟩ ?_
     refine go_cond rfl ?_ ?_
     ·intro c2
      (try simp only [decide_eq_true_eq, decide_eq_false_iff_not, Bool.not_eq_true', Bool.not_eq_false', Bool.not_eq_eq_eq_not, Bool.not_true, Bool.not_false, Int.not_lt, Int.not_le, beq_iff_eq, beq_eq_false_iff_ne, ne_eq] at c2)
      simp only [not_or] at c2
      refine go_seq ?_
      refine go_region rfl ?_
      refine go_pure0 Tk rfl rfl rfl ?_
      refine go_nil ?_
      refine go_env [(4, _)] ⟨rfl, trivial⟩ ?_
      refine go_ret ⟨rfl, rfl⟩ _ _ (res1 (by rfl) (.tmp rfl)) ⟨by rw [mtch_var_no hi (by omega) (by omega) hv (ha _ (List.getElem_mem _)) (by simpa using c2)], rfl, rfl⟩ (by repeat constructor) (by repeat constructor)
     ·intro c2
      (try simp only [decide_eq_true_eq, decide_eq_false_iff_not, Bool.not_eq_true', Bool.not_eq_false', Bool.not_eq_eq_eq_not, Bool.not_true, Bool.not_false, Int.not_lt, Int.not_le, beq_iff_eq, beq_eq_false_iff_ne, ne_eq] at c2)
      have c2 : σ a.a[k].n = none ∨ σ a.a[k].n = some f.a[k] := by simpa using c2
      rw [hσ c2]
      refine go_skip ?_
      refine go_blk ?_
      refine go_seq ?_
      refine go_region rfl ?_
      refine go_pure0 Tk rfl rfl rfl ?_
      refine go_nil ?_
      refine go_env [(3, _), (5, _), (8, _), (24, _), (25, _), (26, _)] ⟨rfl, rfl, rfl, rfl, rfl, rfl, trivial⟩ ?_
      iterate 5 first | refine go_exit rfl ?_ | refine go_seq ?_ | refine go_region rfl ?_ | refine go_pure0 Tk rfl rfl rfl ?_
      refine go_nil ?_
      refine go_env [(3, _), (5, _), (24, _), (25, _), (26, _), (51, _)] ⟨rfl, rfl, rfl, rfl, rfl, rfl, trivial⟩ ?_
      refine go_cond_f rfl ?_
      refine go_skip ?_
      refine go_blk ?_
      iterate 3 first | refine go_region rfl ?_ | refine go_pure0 Tk rfl rfl rfl ?_
      refine go_nil ?_
      refine go_i64 26 rfl (by omega) (by omega) ?_
      refine go_back (k + 1, upd σ a.a[k].n f.a[k]) ⟨rfl, rfl, rfl, rfl, rfl, trivial⟩ (by repeat constructor) (by repeat constructor) ⟨by show k + 1 ≤ _; omega, inv_var hi (by omega) (by omega) hv (ha _ (List.getElem_mem _)) c2⟩ (by show a.a.length - (k + 1) < a.a.length - k; omega)
    ·skip
     have hv : a.a[k].v = false := by simpa using hv
     refine go_re 37 (.int .i64 (if a.a[k].n = f.a[k] then 1 else 0)) (by show some (Value.int _ _) = _; rw [hv]; rfl) ?_
     refine go_region rfl ?_
     refine go_pure0 Tk rfl rfl rfl ?_
     refine go_re 39 (.bool false) (by show some (Value.bool _) = _; split <;> rfl) ?_
     refine go_pure0 Tk rfl rfl rfl ?_
     refine go_nil ?_
     refine go_env [(3, _), (5, _), (6, _), (7, _), (8, _), (24, _), (25, _), (26, _), (37, _), (38, _)] ⟨rfl, rfl, rfl, rfl, rfl, rfl, rfl, rfl, rfl, rfl, trivial⟩ ?_
     refine go_cond_f rfl ?_
     refine go_skip ?_
     refine go_seq ?_
     by_cases hs : a.a[k].n = f.a[k]
     ·skip
      refine go_re 37 (.int .i64 1) (by show some (Value.int _ _) = _; rw [if_pos hs]) ?_
      refine go_region rfl ?_
      refine go_pure0 Tk rfl rfl rfl ?_
      refine go_re 41 (.bool true) rfl ?_
      refine go_pure0 Tk rfl rfl rfl ?_
      refine go_nil ?_
      refine go_env [(3, _), (5, _), (8, _), (24, _), (25, _), (26, _), (40, _)] ⟨rfl, rfl, rfl, rfl, rfl, rfl, rfl, trivial⟩ ?_
      refine go_cond_t rfl ?_
      refine go_exit rfl ?_
      refine go_seq ?_
      refine go_region rfl ?_
      refine go_pure0 Tk rfl rfl rfl ?_
      refine go_nil ?_
      refine go_env [(3, _), (5, _), (8, _), (24, _), (25, _), (26, _)] ⟨rfl, rfl, rfl, rfl, rfl, rfl, trivial⟩ ?_
      iterate 5 first | refine go_exit rfl ?_ | refine go_seq ?_ | refine go_region rfl ?_ | refine go_pure0 Tk rfl rfl rfl ?_
      refine go_nil ?_
      refine go_env [(3, _), (5, _), (24, _), (25, _), (26, _), (51, _)] ⟨rfl, rfl, rfl, rfl, rfl, rfl, trivial⟩ ?_
      refine go_cond_f rfl ?_
      refine go_skip ?_
      refine go_blk ?_
      iterate 3 first | refine go_region rfl ?_ | refine go_pure0 Tk rfl rfl rfl ?_
      refine go_nil ?_
      refine go_i64 26 rfl (by omega) (by omega) ?_
      refine go_imp (heldO bh σ k) [heldO bh σ (k + 1)] (by repeat constructor) (fun _ _ q => sep_one (heldO_more q)) ?_
      refine go_back (k + 1, σ) ⟨rfl, rfl, rfl, rfl, rfl, trivial⟩ (by repeat constructor) (by repeat constructor) ⟨by show k + 1 ≤ _; omega, inv_sym hi (by omega) (by omega) hv hs⟩ (by show a.a.length - (k + 1) < a.a.length - k; omega)
     ·skip
      refine go_re 37 (.int .i64 0) (by show some (Value.int _ _) = _; rw [if_neg hs]) ?_
      refine go_region rfl ?_
      refine go_pure0 Tk rfl rfl rfl ?_
      refine go_re 41 (.bool false) rfl ?_
      refine go_pure0 Tk rfl rfl rfl ?_
      refine go_nil ?_
      refine go_env [(3, _), (5, _), (8, _), (24, _), (25, _), (26, _), (40, _)] ⟨rfl, rfl, rfl, rfl, rfl, rfl, rfl, trivial⟩ ?_
      refine go_cond_f rfl ?_
      iterate 6 first | refine go_skip ?_ | refine go_exit rfl ?_ | refine go_seq ?_ | refine go_region rfl ?_ | refine go_pure0 Tk rfl rfl rfl ?_
      refine go_nil ?_
      refine go_env [(3, _), (5, _), (24, _), (25, _), (26, _), (51, _)] ⟨rfl, rfl, rfl, rfl, rfl, rfl, trivial⟩ ?_
      refine go_cond_t rfl ?_
      refine go_seq ?_
      refine go_region rfl ?_
      refine go_pure0 Tk rfl rfl rfl ?_
      refine go_nil ?_
      refine go_env [(4, _)] ⟨rfl, trivial⟩ ?_
      refine go_ret ⟨rfl, rfl⟩ _ _ (res1 (by rfl) (.tmp rfl)) ⟨by rw [mtch_sym_no (by omega) (by omega) hv hs], rfl, rfl⟩ (by repeat constructor) (by repeat constructor)
   ·intro c1
    refine go_exit rfl ?_
    refine go_seq ?_
    refine go_region rfl ?_
    refine go_pure0 Tk rfl rfl rfl ?_
    refine go_nil ?_
    refine go_env [(4, _)] ⟨rfl, trivial⟩ ?_
    refine go_ret ⟨rfl, rfl⟩ _ _ (res1 (by rfl) (.tmp rfl)) ⟨by rw [mtch_yes g1 hl (by rw [show a.a.length = k by omega] at *; exact hi)], rfl, rfl⟩ (by repeat constructor) (by repeat constructor)

end Go.Proofs.Ytkhddfknpegpmaa.SL

/- Contracts of functions of the program (Matchr): what each call comes to, for the laws' proofs. -/
set_option linter.unusedVariables false
set_option linter.unusedSimpArgs false
namespace Go.Proofs.Ytkhddfknpegpmaa.SL
open Go 

end Go.Proofs.Ytkhddfknpegpmaa.SL

/- Contracts of functions of the program (Relq): what each call comes to, for the laws' proofs. -/
set_option linter.unusedVariables false
set_option linter.unusedSimpArgs false
namespace Go.Proofs.Ytkhddfknpegpmaa.SL
open Go 

/-- A set that is owned through and through. -/
def relD (b : Nat) (l : List Fa) : OA := OA.ex fun A : Option Addr => OA.ex fun c : Nat => OA.all [pt b 81 [.slice A l.length c], dl tFa 41 A c l]
theorem go_relD {C : Ctx} {k : List It} {E : Env} {Ps : List PA} {Os rr : List OA} {b : Nat} {l : List Fa} (h : Rem (relD b l) Os rr) (g : Go C k E Ps (relO b l :: rr)) : Go C k E Ps Os :=
  go_oex h fun A => go_oex .here fun c => go_oall .here (go_dl_ol (T := tFa) (A := A) (.there .here) (go_fold [pt b 81 [.slice A l.length c], ol tFa 41 A c l] (relO b l) (.cons (.there .here) (.cons .here .nil)) (fun _ _ q => relO_mk q) g))

set_option maxHeartbeats 2000000 in
set_option maxRecDepth 20000 in
theorem list1 (x : Fa) (A : Option Addr) (c : Nat) :
    Spec Try.prog 44 #[.agg #[.int .u32 x.p, .slice A x.a.length c]] [sl tU A c x.a, PA.tt] [] (fun v Ps' Os' => v = .bool true ∧ Ps' = [] ∧ Os' = []) := by
 refine spec_of (fn := Try.f44) (args := [.agg #[.int .u32 x.p, .slice A x.a.length c]]) 3 Try.func44 rfl (by kernel_rfl) Try.ntmps44 (Nat.le_of_ble_eq_true rfl) (fun w0 hp0 hf0 => ?_)
 refine go_seq ?_
 refine go_region rfl ?_
 refine go_box Tk rfl rfl rfl rfl (by rfl) rfl rfl (fun h => nomatch h) ?_
 intro b1
 refine go_pure0 Tk rfl rfl rfl ?_
 refine go_nil ?_
 refine go_env [] trivial ?_
 refine go_seq ?_
 refine go_region rfl ?_
 refine go_pure0 Tk rfl rfl rfl ?_
 refine go_nil ?_
 refine go_env [(2, _)] ⟨rfl, trivial⟩ ?_
 refine go_ret ⟨rfl, rfl⟩ _ _ (res1 (by rfl) (.tmp rfl)) ⟨rfl, rfl, rfl⟩ (by repeat constructor) (by repeat constructor)

set_option maxHeartbeats 2000000 in
set_option maxRecDepth 20000 in
theorem find1 (bA : Nat) (a : Am) (AA : Option Addr) (ac : Nat) (ha : ∀ t ∈ a.a, 0 ≤ t.n) (hm : a.a.length ≤ 1000000) (x : Fa) (A : Option Addr) (c : Nat) :
    Spec Try.prog 60 #[.agg #[.int .u32 x.p, .slice A x.a.length c], .pointer (some ⟨bA, 0, none⟩)] [sl tU A c x.a, PA.all [cl bA 0 [.int .u32 a.p, .slice AA a.a.length ac], sl tTm AA ac a.a]] [] (fun v Ps' Os' => v = .bool (mtch a x) ∧ Ps' = [] ∧ Os' = []) := by
 refine spec_of (fn := Try.f60) (args := [.agg #[.int .u32 x.p, .slice A x.a.length c], .pointer (some ⟨bA, 0, none⟩)]) 7 Try.func60 rfl (by kernel_rfl) Try.ntmps60 (Nat.le_of_ble_eq_true rfl) (fun w0 hp0 hf0 => ?_)
 refine go_seq ?_
 refine go_region rfl ?_
 refine go_box Tk rfl rfl rfl rfl (by rfl) rfl rfl (fun h => nomatch h) ?_
 intro b1
 refine go_pure0 Tk rfl rfl rfl ?_
 refine go_nil ?_
 refine go_env [(1, _), (2, _)] ⟨rfl, rfl, trivial⟩ ?_
 refine go_seq ?_
 refine go_pall (l := [_, _]) (by repeat constructor) ?_
 iterate 3 first | refine go_region rfl ?_ | refine go_val0 rfl (ldv Tk rfl rfl rfl) rfl ?_
 refine go_call (atomsMatch a AA ac x A c ha hm) rfl rfl (by rfl) rfl (by repeat constructor) (by repeat constructor) (fun h => nomatch h) ?_
 rintro _ _ _ ⟨rfl, rfl, rfl⟩
 refine go_pure0 Tk rfl rfl rfl ?_
 refine go_nil ?_
 refine go_env [(3, _)] ⟨rfl, trivial⟩ ?_
 refine go_ret ⟨rfl, rfl⟩ _ _ (res1 (by rfl) (.tmp rfl)) ⟨rfl, rfl, rfl⟩ (by repeat constructor) (by repeat constructor)

set_option maxHeartbeats 2000000 in
set_option maxRecDepth 20000 in
theorem less1 (bS : Nat) (s : Option Addr) (ls : List Fa) (hr : rises ls) (hm : ls.length ≤ 50000000) (x : Fa) (A : Option Addr) (c : Nat) :
    Spec Try.prog 45 #[.agg #[.int .u32 x.p, .slice A x.a.length c], .pointer (some ⟨bS, 0, none⟩)] [sl tU A c x.a, PA.all [cl bS 0 [.pointer s], relN s ls]] [] (fun v Ps' Os' => v = .bool (!decide (x ∈ ls)) ∧ Ps' = [] ∧ Os' = []) := by
 refine spec_of (fn := Try.f45) (args := [.agg #[.int .u32 x.p, .slice A x.a.length c], .pointer (some ⟨bS, 0, none⟩)]) 8 Try.func45 rfl (by kernel_rfl) Try.ntmps45 (Nat.le_of_ble_eq_true rfl) (fun w0 hp0 hf0 => ?_)
 refine go_seq ?_
 refine go_region rfl ?_
 refine go_box Tk rfl rfl rfl rfl (by rfl) rfl rfl (fun h => nomatch h) ?_
 intro b1
 refine go_pure0 Tk rfl rfl rfl ?_
 refine go_nil ?_
 refine go_env [(1, _), (2, _)] ⟨rfl, rfl, trivial⟩ ?_
 refine go_seq ?_
 refine go_pall (l := [_, _]) (by repeat constructor) ?_
 iterate 3 first | refine go_region rfl ?_ | refine go_val0 rfl (ldv Tk rfl rfl rfl) rfl ?_
 refine go_call (relHasN s ls x A c hr hm) rfl rfl (by rfl) rfl (by repeat constructor) (by repeat constructor) (fun h => nomatch h) ?_
 rintro _ _ _ ⟨rfl, rfl, rfl⟩
 iterate 2 refine go_pure0 Tk rfl rfl rfl ?_
 refine go_nil ?_
 refine go_env [(3, _)] ⟨rfl, trivial⟩ ?_
 refine go_ret ⟨rfl, rfl⟩ _ _ (res1 (by rfl) (.tmp rfl)) ⟨rfl, rfl, rfl⟩ (by repeat constructor) (by repeat constructor)

set_option maxHeartbeats 2000000 in
set_option maxRecDepth 20000 in
theorem relListN (p0 : Option Addr) (l : List Fa) (hn : l.length ≤ 50000000) (hb : ∀ x ∈ l, x.a.length ≤ 100000) :
    Spec Try.prog 21 #[.pointer p0] [relN p0 l] [] (fun v Ps' Os' => ∃ A c, v = .slice A (l).length c ∧ Ps' = [] ∧ Os' = [dl tFa 41 A c (l)]) := by
 refine spec_of (fn := Try.f21) (args := [.pointer p0]) 5 Try.func21 rfl (by kernel_rfl) Try.ntmps21 (Nat.le_of_ble_eq_true rfl) (fun w0 hp0 hf0 => ?_)
 refine go_seq ?_
 refine go_region rfl ?_
 refine go_pure0 Tk rfl rfl rfl ?_
 refine go_nil ?_
 refine go_env [(0, _)] ⟨rfl, trivial⟩ ?_
 refine go_seq ?_
 refine go_ent PA.tt (fun _ _ => trivial) ?_
 refine go_region rfl ?_
 refine go_pure0 Tk rfl rfl rfl ?_
 refine go_call (relList_ p0 l 44 #[] (fun _ => true) PA.tt (fun x A c => list1 x A c) hn hb) rfl rfl (by rfl) rfl (by repeat constructor) (by repeat constructor) (fun h => nomatch h) ?_
 rintro _ _ _ ⟨A, c, rfl, rfl, rfl⟩
 rw [filt_all]
 refine go_pure0 Tk rfl rfl rfl ?_
 refine go_nil ?_
 refine go_env [(2, _)] ⟨rfl, trivial⟩ ?_
 refine go_ret ⟨rfl, rfl⟩ _ _ (res1 (by rfl) (.tmp rfl)) ⟨A, c, rfl, rfl, rfl⟩ (by repeat constructor) (by repeat constructor)

set_option maxHeartbeats 2000000 in
set_option maxRecDepth 20000 in
theorem relFindN (p0 : Option Addr) (l : List Fa) (a : Am) (AA : Option Addr) (ac : Nat) (ha : ∀ t ∈ a.a, 0 ≤ t.n) (hm : a.a.length ≤ 1000000) (hn : l.length ≤ 50000000) (hb : ∀ x ∈ l, x.a.length ≤ 100000) :
    Spec Try.prog 49 #[.pointer p0, .agg #[.int .u32 a.p, .slice AA a.a.length ac]] [relN p0 l, sl tTm AA ac a.a] [] (fun v Ps' Os' => ∃ A c, v = .slice A (l.filter (mtch a)).length c ∧ Ps' = [] ∧ Os' = [dl tFa 41 A c (l.filter (mtch a))]) := by
 refine spec_of (fn := Try.f49) (args := [.pointer p0, .agg #[.int .u32 a.p, .slice AA a.a.length ac]]) 8 Try.func49 rfl (by kernel_rfl) Try.ntmps49 (Nat.le_of_ble_eq_true rfl) (fun w0 hp0 hf0 => ?_)
 refine go_seq ?_
 refine go_region rfl ?_
 refine go_box Tk rfl rfl rfl rfl (by rfl) rfl rfl (fun h => nomatch h) ?_
 intro bA
 refine go_freeze_pt (b := bA) (by repeat constructor) ?_
 refine go_mkall [cl bA 0 [.int .u32 a.p, .slice AA a.a.length ac], sl tTm AA ac a.a] (by repeat constructor) ?_
 refine go_pure0 Tk rfl rfl rfl ?_
 refine go_nil ?_
 refine go_env [(0, _), (3, _)] ⟨rfl, rfl, trivial⟩ ?_
 iterate 4 first | refine go_seq ?_ | refine go_region rfl ?_ | refine go_pure0 Tk rfl rfl rfl ?_
 refine go_call (relList_ p0 l 60 #[.pointer (some ⟨bA, 0, none⟩)] (mtch a) (PA.all [cl bA 0 [.int .u32 a.p, .slice AA a.a.length ac], sl tTm AA ac a.a]) (fun x A c => find1 bA a AA ac ha hm x A c) hn hb) rfl rfl (by rfl) rfl (by repeat constructor) (by repeat constructor) (fun h => nomatch h) ?_
 rintro _ _ _ ⟨A, c, rfl, rfl, rfl⟩
 refine go_pure0 Tk rfl rfl rfl ?_
 refine go_nil ?_
 refine go_env [(4, _)] ⟨rfl, trivial⟩ ?_
 refine go_ret ⟨rfl, rfl⟩ _ _ (res1 (by rfl) (.tmp rfl)) ⟨A, c, rfl, rfl, rfl⟩ (by repeat constructor) (by repeat constructor)

set_option maxHeartbeats 2000000 in
set_option maxRecDepth 20000 in
theorem relLessN (p0 : Option Addr) (l : List Fa) (s : Option Addr) (ls : List Fa) (hr : rises ls) (hm : ls.length ≤ 50000000) (hn : l.length ≤ 50000000) (hb : ∀ x ∈ l, x.a.length ≤ 100000) :
    Spec Try.prog 22 #[.pointer p0, .pointer s] [relN p0 l, relN s ls] [] (fun v Ps' Os' => ∃ b, v = .pointer (some ⟨b, 0, none⟩) ∧ Ps' = [] ∧ Os' = [relD b (less l ls)]) := by
 refine spec_of (fn := Try.f22) (args := [.pointer p0, .pointer s]) 10 Try.func22 rfl (by kernel_rfl) Try.ntmps22 (Nat.le_of_ble_eq_true rfl) (fun w0 hp0 hf0 => ?_)
 refine go_seq ?_
 refine go_region rfl ?_
 refine go_box Tk rfl rfl rfl rfl (by rfl) rfl rfl (fun h => nomatch h) ?_
 intro bS
 refine go_freeze_pt (b := bS) (by repeat constructor) ?_
 refine go_mkall [cl bS 0 [.pointer s], relN s ls] (by repeat constructor) ?_
 refine go_pure0 Tk rfl rfl rfl ?_
 refine go_nil ?_
 refine go_env [(0, _), (3, _)] ⟨rfl, rfl, trivial⟩ ?_
 iterate 4 first | refine go_seq ?_ | refine go_region rfl ?_ | refine go_pure0 Tk rfl rfl rfl ?_
 refine go_call (relList_ p0 l 45 #[.pointer (some ⟨bS, 0, none⟩)] (fun x => !decide (x ∈ ls)) (PA.all [cl bS 0 [.pointer s], relN s ls]) (fun x A c => less1 bS s ls hr hm x A c) hn hb) rfl rfl (by rfl) rfl (by repeat constructor) (by repeat constructor) (fun h => nomatch h) ?_
 rintro _ _ _ ⟨A, c, rfl, rfl, rfl⟩
 rw [show l.filter (fun x => !decide (x ∈ ls)) = less l ls from rfl]
 refine go_val0 rfl (fun a w hp ho hf hs => build_val Tk rfl rfl rfl (by rfl) a w hf) rfl ?_
 refine go_box Tk rfl rfl rfl rfl (by rfl) rfl rfl (fun h => nomatch h) ?_
 intro bz
 refine go_pure0 Tk rfl rfl rfl ?_
 refine go_nil ?_
 refine go_fold [pt bz 81 [.slice A (less l ls).length c], dl tFa 41 A c (less l ls)] (relD bz (less l ls)) (by repeat constructor) (fun _ _ q => ⟨A, c, q⟩) ?_
 refine go_env [(4, _)] ⟨rfl, trivial⟩ ?_
 refine go_ret ⟨rfl, rfl⟩ _ _ (res1 (by rfl) (.tmp rfl)) ⟨bz, rfl, rfl, rfl⟩ (by repeat constructor) (by repeat constructor)

set_option maxHeartbeats 2000000 in
set_option maxRecDepth 20000 in
theorem relOf (A : Option Addr) (c : Nat) (l : List Fa) (hn : l.length ≤ 50000000) (hb : ∀ x ∈ l, x.a.length ≤ 100000) :
    Spec Try.prog 11 #[.slice A l.length c] [sl tFa A c l] [] (fun v Ps' Os' => ∃ b, v = .pointer (some ⟨b, 0, none⟩) ∧ Ps' = [] ∧ Os' = [relO b (fof l)]) := by
 refine spec_of (fn := Try.f11) (args := [.slice A l.length c]) 21 Try.func11 rfl (by kernel_rfl) Try.ntmps11 (Nat.le_of_ble_eq_true rfl) (fun w0 hp0 hf0 => ?_)
 refine go_seq ?_
 refine go_len (xs := l) (by repeat constructor) (fun l0 m0 => ?_)
 refine go_region rfl ?_
 refine go_pure0 Tk rfl rfl rfl ?_
 refine go_nil ?_
 refine go_env [(0, _)] ⟨rfl, trivial⟩ ?_
 refine go_seq ?_
 refine go_region rfl ?_
 refine go_call (relNew) rfl rfl (by rfl) rfl (by repeat constructor) (by repeat constructor) (fun h => nomatch h) ?_
 rintro _ _ _ ⟨br, rfl, rfl, rfl⟩
 refine go_pure0 Tk rfl rfl rfl ?_
 refine go_nil ?_
 refine go_env [(0, _), (3, _)] ⟨rfl, rfl, trivial⟩ ?_
 iterate 5 first | refine go_seq ?_ | refine go_region rfl ?_ | refine go_pure0 Tk rfl rfl rfl ?_
 refine go_nil ?_
 refine go_env [(0, _), (3, _), (4, _)] ⟨rfl, rfl, rfl, trivial⟩ ?_
 iterate 6 first | refine go_seq ?_ | refine go_region rfl ?_ | refine go_pure0 Tk rfl rfl rfl ?_
 refine go_nil ?_
 refine go_env [(3, _), (4, _), (10, _), (11, _), (12, _)] ⟨rfl, rfl, rfl, rfl, rfl, trivial⟩ ?_
 refine go_block ?_
 refine go_loop' (X := Nat) (fun k => [(12, .int .i64 (k : Int))]) [(3, _), (4, _), (10, _), (11, _)] (fun k => [relO br (fof (l.take k))]) (fun k => k ≤ l.length) (fun k => l.length - k) (0) ⟨rfl, rfl, rfl, rfl, rfl, trivial⟩ (by repeat constructor) (by omega) ?_
 intro k hk
 refine go_seq ?_
 refine go_region rfl ?_
 refine go_pure0 Tk rfl rfl rfl ?_
 refine go_nil ?_
 refine go_env [(3, _), (4, _), (10, _), (11, _), (12, _), (13, _)] ⟨rfl, rfl, rfl, rfl, rfl, rfl, trivial⟩ ?_
 refine go_seq ?_
 refine go_condD rfl ?_ ?_
 ·intro c1
  iterate 4 first | refine go_skip ?_ | refine go_seq ?_ | refine go_block ?_
  refine go_elem_fa (xs := l) (by repeat constructor) (k) (List.getElem?_eq_getElem (by omega)) (fun b0 o0 A0 c0 hA => ?_); cases hA
  refine go_region rfl ?_
  refine go_val0 rfl (idx_val Tk rfl rfl rfl rfl rfl (by omega)) rfl ?_
  refine go_val0 rfl (ldv Tk rfl rfl rfl) rfl ?_
  refine go_alloc Tk rfl rfl rfl (by rfl) rfl rfl (fun h => nomatch h) ?_
  intro b1
  refine go_store Tk rfl rfl rfl rfl rfl rfl (by repeat constructor) rfl rfl (by rfl) (fun h => nomatch h) ?_
  refine go_nil ?_
  refine go_env [(3, _), (4, _), (6, _), (10, _), (11, _), (12, _)] ⟨rfl, rfl, rfl, rfl, rfl, rfl, trivial⟩ ?_
  refine go_region rfl ?_
  refine go_pure0 Tk rfl rfl rfl ?_
  refine go_val0 rfl (ldv Tk rfl rfl rfl) rfl ?_
  refine go_call (relPut br (fof (l.take k)) l[k] A0 c0 (rises_fof _) (by have := fof_len (l.take k); rw [List.length_take] at this; omega) (hb _ (List.getElem_mem _))) rfl rfl (by rfl) rfl (by repeat constructor) (by repeat constructor) (fun h => nomatch h) ?_
  rintro _ _ _ ⟨rfl, rfl, rfl⟩
  refine go_nil ?_
  refine go_env [(3, _), (4, _), (10, _), (11, _), (12, _)] ⟨rfl, rfl, rfl, rfl, rfl, trivial⟩ ?_
  refine go_blk ?_
  iterate 3 first | refine go_region rfl ?_ | refine go_pure0 Tk rfl rfl rfl ?_
  refine go_nil ?_
  refine go_i64 12 rfl (by omega) (by omega) ?_
  rw [← fof_next (by omega)]
  refine go_back (k + 1) ⟨rfl, rfl, rfl, rfl, rfl, trivial⟩ (by repeat constructor) (by repeat constructor) (by omega) (by omega)
 ·intro c1
  refine go_exit rfl ?_
  refine go_seq ?_
  rw [List.take_of_length_le (show l.length ≤ k by omega)]
  iterate 3 first | refine go_region rfl ?_ | refine go_pure0 Tk rfl rfl rfl ?_
  refine go_nil ?_
  refine go_env [(2, _)] ⟨rfl, trivial⟩ ?_
  refine go_ret ⟨rfl, rfl⟩ _ _ (res1 (by rfl) (.tmp rfl)) ⟨br, rfl, rfl, rfl⟩ (by repeat constructor) (by repeat constructor)

end Go.Proofs.Ytkhddfknpegpmaa.SL

/- Contracts of functions of the program (Refrel): what each call comes to, for the laws' proofs. -/
set_option linter.unusedVariables false
set_option linter.unusedSimpArgs false
namespace Go.Proofs.Ytkhddfknpegpmaa.SL
open Go 

end Go.Proofs.Ytkhddfknpegpmaa.SL

/- Contracts of functions of the program (Refrelb): what each call comes to, for the laws' proofs. -/
set_option linter.unusedVariables false
set_option linter.unusedSimpArgs false
namespace Go.Proofs.Ytkhddfknpegpmaa.SL
open Go 

end Go.Proofs.Ytkhddfknpegpmaa.SL

/- Contracts of functions of the program (Relr): what each call comes to, for the laws' proofs. -/
set_option linter.unusedVariables false
set_option linter.unusedSimpArgs false
namespace Go.Proofs.Ytkhddfknpegpmaa.SL
open Go 

end Go.Proofs.Ytkhddfknpegpmaa.SL

/- Plain laws of sets of facts: what the statements of stage 10 say of them. -/
set_option linter.unusedVariables false
set_option linter.unusedSimpArgs false
namespace Go.Proofs.Ytkhddfknpegpmaa.SL
theorem mem_less {a b : List Fa} {x : Fa} : x ∈ less a b ↔ x ∈ a ∧ ¬ x ∈ b := by simp [less]
theorem rises_less {a : List Fa} (h : rises a) (b : List Fa) : rises (less a b) := rises_filter h _
theorem less_len (a b : List Fa) : (less a b).length ≤ a.length := List.length_filter_le _ _
theorem less_nil (a : List Fa) : less a [] = a := by simp [less]
theorem rises_nodup {l : List Fa} (h : rises l) : l.Nodup := List.Pairwise.imp (fun {a b} g e => by subst e; rw [cF_zero.2 rfl] at g; omega) h
structure Fine (l : List Fa) : Prop where
  r : rises l
  n : l.length ≤ 1000000
  b : ∀ x ∈ l, x.a.length ≤ 100000
theorem Fine.less {a : List Fa} (h : Fine a) (b : List Fa) : Fine (less a b) := ⟨rises_less h.r b, Nat.le_trans (less_len _ _) h.n, fun x hx => h.b x (mem_less.1 hx).1⟩
theorem Fine.nil : Fine [] := ⟨rises_nil, by simp, by simp⟩
theorem Fine.fof {l : List Fa} (h1 : l.length ≤ 1000000) (h2 : ∀ x ∈ l, x.a.length ≤ 100000) : Fine (fof l) := ⟨rises_fof l, Nat.le_trans (fof_len l) h1, fun x hx => h2 x (mem_fof.1 hx)⟩
theorem Fine.few {l : List Fa} (h : fewF l = true) : Fine (SL.fof l) := by
  obtain ⟨h1, h2⟩ := fewF_iff.1 h
  exact Fine.fof (by omega) (fun x hx => Nat.le_trans (h2 x hx) (by omega))
/-- One list holds only what is in another, each at most once. -/
theorem nodup_len : ∀ {a b : List Fa}, a.Nodup → (∀ x ∈ a, x ∈ b) → a.length ≤ b.length
  | [], _, _, _ => by simp
  | x :: a, b, hn, h => by
    rw [List.nodup_cons] at hn
    have hx := h x (.head _)
    have h1 := nodup_len (a := a) (b := b.erase x) hn.2 fun y hy => (List.mem_erase_of_ne (by rintro rfl; exact hn.1 hy)).2 (h y (.tail _ hy))
    rw [List.length_erase_of_mem hx] at h1
    have : 0 < b.length := List.length_pos_of_mem hx
    simp only [List.length_cons]; omega
theorem sub_len {a b : List Fa} (ha : rises a) (h : ∀ x ∈ a, x ∈ b) : a.length ≤ b.length := nodup_len (rises_nodup ha) h
end Go.Proofs.Ytkhddfknpegpmaa.SL

/- Lists of facts that are owned through and through: read, lent, and written over. -/
set_option linter.unusedVariables false
set_option linter.unusedSimpArgs false
namespace Go.Proofs.Ytkhddfknpegpmaa.SL
/-- Such a list, its cells known. -/
def Dlc (e : Nat) (A : Option Addr) (c : Nat) (xs : List Fa) (cs : List Value) (ho : Heap) : Prop := ∃ h1 h2 : Heap, h1.le ho ∧ h2.le ho ∧ h1.dj h2 ∧ Row e tFa.size A xs.length c cs h1 ∧ Reps tFa h2 xs cs ∧ Wr h2
/-- The cells of an element. -/
def cell2 (cs : List Value) (j : Nat) (x : Fa) (A : Option Addr) (c : Nat) : Prop := cs[j * 2]? = some (.int .u32 x.p) ∧ cs[j * 2 + 1]? = some (.slice A x.a.length c)
theorem Reps.cell2 {h : Heap} {xs : List Fa} {cs : List Value} (r : Reps tFa h xs cs) {j : Nat} {x : Fa} (hj : xs[j]? = some x) : ∃ A c, SL.cell2 cs j x A c ∧ Sl tU h A c x.a := by
  obtain ⟨ds, h1, h2⟩ := r.at j x hj
  obtain ⟨A, c, rfl, s⟩ := tFa_open h1
  exact ⟨A, c, ⟨h2 0 _ rfl, h2 1 _ rfl⟩, s⟩
section
variable {C : Ctx} {k : List It} {E : Env} {Ps : List PA} {Os : List OA}
end
theorem Sl.over {h h' : Heap} {A : Option Addr} {c : Nat} {xs : List Int} (s : Sl tU h A c xs) (hc : ∀ b i v, cellH h b i = some (.int .u32 v) → ∃ v', cellH h' b i = some (.int .u32 v')) : ∃ ys : List Int, ys.length = xs.length ∧ Sl tU h' A c ys := by
  obtain ⟨s1, s2, s3, s4⟩ := s
  have key : ∀ n, n ≤ xs.length → ∃ ys : List Int, ys.length = n ∧ ∀ j x, ys[j]? = some x → ∃ b o cs, A = some ⟨b, o, none⟩ ∧ tU.rep h' x cs ∧ ∀ i v, cs[i]? = some v → cellH h' b (o + (j * tU.size + i)) = some v := by
    intro n
    induction n with
    | zero => exact fun _ => ⟨[], rfl, fun j x hj => by simp at hj⟩
    | succ n ih =>
      intro hn
      obtain ⟨ys, h1, h2⟩ := ih (by omega)
      obtain ⟨b, o, cs, e, r, hcs⟩ := s4 n _ (List.getElem?_eq_getElem (by omega))
      have r' : cs = [.int .u32 xs[n]] := r
      subst r'
      obtain ⟨v', hv'⟩ := hc _ _ _ (hcs 0 _ rfl)
      refine ⟨ys ++ [v'], by simp [h1], fun j x hj => ?_⟩
      rw [List.getElem?_append] at hj
      split at hj
      · exact h2 j x hj
      · rename_i hlt
        have : j = n := by
          rcases Nat.lt_or_ge j (n + 1) with q | q
          · omega
          · rw [List.getElem?_eq_none (by simp; omega)] at hj; cases hj
        subst this
        simp [h1] at hj
        subst hj
        exact ⟨b, o, _, e, rfl, fun i v hi => by
          cases i with
          | zero => simp at hi; subst hi; exact hv'
          | succ i => simp at hi⟩
  obtain ⟨ys, h1, h2⟩ := key xs.length (Nat.le_refl _)
  exact ⟨ys, h1, by rw [h1]; exact s1, s2, s3, h2⟩
theorem Reps.over {h h' : Heap} (hc : ∀ b i v, cellH h b i = some (.int .u32 v) → ∃ v', cellH h' b i = some (.int .u32 v')) : ∀ {xs : List Fa} {cs : List Value}, Reps tFa h xs cs → ∃ ys : List Fa, ys.length = xs.length ∧ Reps tFa h' ys cs
  | [], cs, r => ⟨[], rfl, r⟩
  | x :: xs, _, ⟨a, b, e, r, s⟩ => by
    obtain ⟨A, c, rfl, sx⟩ := tFa_open r
    obtain ⟨ys, h1, h2⟩ := Reps.over hc s
    obtain ⟨zs, h3, h4⟩ := sx.over hc
    exact ⟨⟨x.p, zs⟩ :: ys, by simp [h1], _, _, e, by rw [← h3]; exact tFa_mk (x := ⟨x.p, zs⟩) h4, h2⟩
section
variable {C : Ctx} {k : List It} {E : Env} {Ps : List PA} {Os : List OA}
variable {o : Oper} {ops : Array Oper} {S : World → Prop} {r : Pl} {f : Bool}
/-- A symbol in such a list. -/
theorem Dlc.arg {e : Nat} {A : Option Addr} {c : Nat} {xs : List Fa} {cs : List Value} {ho : Heap} (d : Dlc e A c xs cs ho) {j m : Nat} {x : Fa} {A' : Option Addr} {c' : Nat} (hj : xs[j]? = some x) (q : cell2 cs j x A' c') (hm : m < x.a.length) :
    ∃ (h1 h2 : Heap) (b o : Nat) (cur : Array Value) (ty : TypeId), A' = some ⟨b, o, none⟩ ∧ h1.le ho ∧ h2.le ho ∧ h1.dj h2 ∧ Row e tFa.size A xs.length c cs h1 ∧ Reps tFa h2 xs cs ∧ Wr h2 ∧ h2 b = some (.cells cur ty (0, 0)) ∧ cur[o + m]? = some (.int .u32 x.a[m]) := by
  obtain ⟨h1, h2, x1, x2, x3, x4, x5, x6⟩ := d
  obtain ⟨A2, c2, q1, q2⟩ := x5.cell2 hj
  have := q1.2.symm.trans q.2
  simp only [Option.some.injEq, Value.slice.injEq] at this
  obtain ⟨rfl, _, rfl⟩ := this
  obtain ⟨b, o, ds, e1, r, hc⟩ := q2.2.2.2 m _ (List.getElem?_eq_getElem hm)
  have r' : ds = [.int .u32 x.a[m]] := r
  subst r'
  have h0 := hc 0 _ rfl
  have hs1 : tU.size = 1 := rfl
  rw [hs1, Nat.mul_one, Nat.add_zero] at h0
  unfold cellH at h0
  split at h0
  · rename_i cur ty z hb
    obtain ⟨c3, ty3, e3⟩ := x6 _ _ hb
    cases e3
    exact ⟨h1, h2, b, o, cur, ty, e1, x1, x2, x3, x4, x5, x6, hb, h0⟩
  · cases h0
end
/-! ### steps -/
structure St where
  c : Bool
  f : Fa
def St.ok (x : St) : Prop := x.f.ok
structure Small (s : List Fa) (n : Nat) : Prop where
  r : rises s
  n : s.length ≤ n
  b : ∀ x ∈ s, x.a.length ≤ 20
theorem Small.mono {s : List Fa} {n m : Nat} (h : Small s n) (hm : n ≤ m) : Small s m := ⟨h.r, Nat.le_trans h.n hm, h.b⟩
theorem Small.fof {l : List Fa} (h1 : l.length ≤ 300) (h2 : ∀ x ∈ l, x.a.length ≤ 20) : Small (SL.fof l) 300 := ⟨rises_fof l, Nat.le_trans (fof_len l) h1, fun x hx => h2 x (mem_fof.1 hx)⟩
end Go.Proofs.Ytkhddfknpegpmaa.SL

/- Rows of facts with the places of their Args; sorted, each once. -/
set_option linter.unusedVariables false
set_option linter.unusedSimpArgs false
namespace Go.Proofs.Ytkhddfknpegpmaa.SL
structure Fy where
  f : Fa
  A : Option Addr
  c : Nat
section
variable {C : Ctx} {k : List It} {E : Env} {Ps : List PA} {Os : List OA}
end
theorem getF {xs : List Fy} {l : List Fa} (h : xs.map (fun x : Fy => x.f) = l) {j : Nat} (hj : j < xs.length) (hj' : j < l.length) : xs[j].f = l[j] := by subst h; simp
/-! ### neighbours that are the same, once -/
def dd : List Fa → List Fa
  | [] => []
  | [x] => [x]
  | x :: y :: l => if x = y then dd (y :: l) else x :: dd (y :: l)
theorem dd_snoc : ∀ (l : List Fa) (a b : Fa), dd (l ++ [a, b]) = if a = b then dd (l ++ [a]) else dd (l ++ [a]) ++ [b]
  | [], a, b => by
    by_cases h : a = b <;> simp [dd, h]
  | [x], a, b => by
    by_cases h : a = b
    · subst h; by_cases g : x = a <;> simp [dd, g]
    · by_cases g : x = a <;> simp [dd, g, h]
  | x :: y :: l, a, b => by
    have := dd_snoc (y :: l) a b
    simp only [List.cons_append] at this ⊢
    by_cases g : x = y
    · simp only [dd, g, if_true]; exact this
    · simp only [dd, g, if_false, this]; split <;> rfl
theorem dd_next {l : List Fa} {k : Nat} (h0 : 0 < k) (hk : k < l.length) : dd (l.take (k + 1)) = if l[k - 1] = l[k] then dd (l.take k) else dd (l.take k) ++ [l[k]] := by
  have h1 : l.take k = l.take (k - 1) ++ [l[k - 1]] := by
    have := List.take_succ_eq_append_getElem (l := l) (i := k - 1) (by omega)
    rwa [show k - 1 + 1 = k by omega] at this
  rw [List.take_succ_eq_append_getElem hk, h1, List.append_assoc]
  exact dd_snoc _ _ _
/-- How far the second half of Compact has come: m kept, i looked at behind k. -/
structure Cmp (l : List Fa) (xs ys : List Fy) (k m i : Nat) : Prop where
  len : ys.length = l.length
  lo : k ≤ m
  hi : m + 1 ≤ k + i
  i1 : 1 ≤ i
  i2 : i ≤ l.length - k
  kept : (ys.take m).map (fun x : Fy => x.f) = dd (l.take (k + i))
  rest : ys.drop (k + i - 1) = xs.drop (k + i - 1)
theorem Cmp.start {l : List Fa} {xs : List Fy} {k : Nat} (hx : xs.map (fun x : Fy => x.f) = l) (h0 : 1 ≤ k) (hk : k < l.length) (hz : dd (l.take k) = l.take k) (he : l[k] = l[k - 1]) : Cmp l xs xs k k 1 :=
  ⟨by rw [← hx]; simp, Nat.le_refl _, Nat.le_refl _, Nat.le_refl _, by omega, by rw [dd_next (by omega) hk, if_pos he.symm, hz, ← hx, List.map_take], rfl⟩
theorem Cmp.get {l : List Fa} {xs ys : List Fy} {k m i : Nat} (hx : xs.map (fun x : Fy => x.f) = l) (h : Cmp l xs ys k m i) {j : Nat} (hj : k + i - 1 ≤ j) (hl : j < ys.length) (hl2 : j < l.length) : ys[j].f = l[j] := by
  have hxl : xs.length = l.length := by rw [← hx]; simp
  have e : ys[j]? = xs[j]? := by
    have h1 : (ys.drop (k + i - 1))[j - (k + i - 1)]? = (xs.drop (k + i - 1))[j - (k + i - 1)]? := by rw [h.rest]
    rw [List.getElem?_drop, List.getElem?_drop, show k + i - 1 + (j - (k + i - 1)) = j by omega] at h1
    exact h1
  rw [List.getElem?_eq_getElem hl, List.getElem?_eq_getElem (by omega)] at e
  rw [Option.some.inj e]
  exact getF hx (by omega) hl2
theorem Cmp.skip {l : List Fa} {xs ys : List Fy} {k m i : Nat} (h : Cmp l xs ys k m i) (hi : k + i < l.length) (he : l[k + i] = l[k + i - 1]) : Cmp l xs ys k m (i + 1) :=
  ⟨h.len, h.lo, by have := h.hi; omega, by omega, by omega, by rw [h.kept, show k + (i + 1) = k + i + 1 by omega, dd_next (by have := h.i1; omega) hi, if_pos he.symm], by
    have h1 := congrArg (List.drop 1) h.rest
    have := h.i1
    rw [List.drop_drop, List.drop_drop, show k + i - 1 + 1 = k + (i + 1) - 1 by omega] at h1
    exact h1⟩
theorem Cmp.keep {l : List Fa} {xs ys : List Fy} {k m i : Nat} (hx : xs.map (fun x : Fy => x.f) = l) (h : Cmp l xs ys k m i) (hi : k + i < l.length) (hl : k + i < ys.length) (he : ¬ l[k + i] = l[k + i - 1]) : Cmp l xs (ys.set m ys[k + i]) k (m + 1) (i + 1) :=
  ⟨by rw [List.length_set]; exact h.len, by have := h.lo; omega, by have := h.hi; omega, by omega, by omega, by
    have h1 := h.hi
    have h2 := h.get hx (j := k + i) (by omega) hl hi
    rw [show k + (i + 1) = k + i + 1 by omega, dd_next (by have := h.i1; omega) hi, if_neg (fun e => he e.symm), List.take_succ_eq_append_getElem (by rw [List.length_set]; omega), List.map_append, List.take_set_of_le (Nat.le_refl _), h.kept]
    simp [h2], by
    have h1 := congrArg (List.drop 1) h.rest
    have h3 := h.hi
    have := h.i1
    rw [List.drop_drop, List.drop_drop, show k + i - 1 + 1 = k + (i + 1) - 1 by omega] at h1
    rw [List.drop_set_of_lt (by omega)]
    exact h1⟩
theorem Cmp.done {l : List Fa} {xs ys : List Fy} {k m i : Nat} (h : Cmp l xs ys k m i) (hi : l.length ≤ k + i) : (ys.take m).map (fun x : Fy => x.f) = dd l := by rw [h.kept, List.take_of_length_le hi]
theorem not_next {l : List Fa} {q : Fa} {k : Nat} (hk : k < l.length) (h : ¬ q ∈ l.take k) (g : ¬ cmpF l[k].p l[k].a q.p q.a = 0) : ¬ q ∈ l.take (k + 1) := by
  rw [List.take_succ_eq_append_getElem hk, List.mem_append, List.mem_singleton]
  rintro (c | c)
  · exact h c
  · exact g (cmpF_zero.2 c.symm)
end Go.Proofs.Ytkhddfknpegpmaa.SL

/- Maps whose keys are whole numbers, owned. -/
set_option linter.unusedVariables false
set_option linter.unusedSimpArgs false
namespace Go.Proofs.Ytkhddfknpegpmaa.SL
def kv (e : MapEntry) : Value × Value := (e.key, e.val)
def MapIs (kk : IntKind) (es : List MapEntry) (m : List (Int × Value)) : Prop := es.map kv = m.map fun x => (Value.int kk x.1, x.2)
def mapO (b : Nat) (kk : IntKind) (m : List (Int × Value)) : OA := ⟨fun _ h => ∃ es clock, h b = some (.map es clock) ∧ MapIs kk es.toList m, fun _ q => q⟩
def mget (m : List (Int × Value)) (k : Int) : Option Value := (m.find? fun x => x.1 == k).map (·.2)
def mset (m : List (Int × Value)) (k : Int) (v : Value) : List (Int × Value) := match m.findIdx? (fun x => x.1 == k) with
  | some i => m.modify i fun x => (x.1, v)
  | none => m ++ [(k, v)]
theorem mget_mset (m : List (Int × Value)) (k : Int) (v : Value) (j : Int) : mget (mset m k v) j = if j = k then some v else mget m j := by
  unfold mset
  cases e : m.findIdx? (fun x => x.1 == k) with
  | none =>
    rw [List.findIdx?_eq_none_iff] at e
    unfold mget
    rw [List.find?_append]
    by_cases h : j = k
    · subst h
      have : m.find? (fun x => x.1 == j) = none := by rw [List.find?_eq_none]; intro x hx; simpa using e x hx
      rw [this]; simp
    · rw [if_neg h]
      cases m.find? (fun x => x.1 == j) with
      | none => simp [List.find?_cons, Ne.symm h]
      | some x => simp
  | some i =>
    rw [List.findIdx?_eq_some_iff_getElem] at e
    obtain ⟨hi, h1, h2⟩ := e
    have key : ∀ (m : List (Int × Value)) (i : Nat) (hi : i < m.length), (m[i].1 == k) = true → (∀ j (hj : j < i), (m[j].1 == k) = false) → mget (m.modify i fun x => (x.1, v)) j = if j = k then some v else mget m j := by
      intro m
      induction m with
      | nil => intro i hi; simp at hi
      | cons y m ih =>
        intro i hi h1 h2
        cases i with
        | zero =>
          simp only [List.getElem_cons_zero, beq_iff_eq] at h1
          by_cases h : j = k
          · subst h; simp [mget, List.find?_cons, h1]
          · rw [if_neg h]; simp [mget, List.find?_cons, h1, Ne.symm h]
        | succ i =>
          have h0 := h2 0 (by omega)
          simp only [List.getElem_cons_zero, beq_eq_false_iff_ne, ne_eq] at h0
          have := ih i (by simpa using hi) (by simpa using h1) (fun j hj => by simpa using h2 (j + 1) (by omega))
          simp only [List.modify_succ_cons]
          unfold mget at this ⊢
          simp only [List.find?_cons]
          by_cases hy : (y.1 == j) = true
          · rw [hy]
            have : ¬ j = k := fun c => h0 (by rw [← c]; simpa using hy)
            simp [this]
          · rw [show (y.1 == j) = false by simpa using hy]; exact this
    exact key m i hi h1 (fun j hj => by simpa using h2 j hj)
theorem find_now (q kk : IntKind) (k : Int) : ∀ (es : List MapEntry) (m : List (Int × Value)) (i : Nat), MapIs kk es m → Instr.findNow (.int q) (.int kk k) es i = some (match m.findIdx? (fun x => x.1 == k) with
    | none => none
    | some j => some (i + j, (m[j]?.map (·.2)).getD undef))
  | [], m, i, h => by
    have : m = [] := by simpa [MapIs] using h.symm
    subst this; rfl
  | e :: es, [], i, h => by simp [MapIs] at h
  | e :: es, (k', v) :: m, i, h => by
    simp only [MapIs, List.map_cons, List.cons.injEq, kv, Prod.mk.injEq] at h
    obtain ⟨⟨h1, h2⟩, h3⟩ := h
    unfold Instr.findNow
    rw [h1]
    simp only [Instr.sameNow, if_true]
    by_cases hk : k = k'
    · subst hk
      simp [List.findIdx?_cons, h2]
    · have hk' : (k == k') = false := by simpa using hk
      have hk2 : (k' == k) = false := by simpa using Ne.symm hk
      rw [hk']
      simp only
      rw [find_now q kk k es m (i + 1) h3, List.findIdx?_cons, hk2]
      cases m.findIdx? (fun x => x.1 == k) with
      | none => rfl
      | some j => simp; omega
theorem mget_idx {m : List (Int × Value)} {k : Int} : mget m k = (m.findIdx? (fun x => x.1 == k)).bind fun j => m[j]?.map (·.2) := by
  unfold mget
  induction m with
  | nil => rfl
  | cons y m ih =>
    simp only [List.find?_cons, List.findIdx?_cons]
    by_cases h : (y.1 == k) = true
    · simp [h]
    · rw [show (y.1 == k) = false by simpa using h]
      rw [ih]
      cases m.findIdx? (fun x => x.1 == k) <;> simp
section
variable {C : Ctx} {k : List It} {E : Env} {Ps : List PA} {Os : List OA}
variable {o : Oper} {ops : Array Oper} {S : World → Prop} {r : Pl} {f : Bool}
theorem run_ckI {P : Program} {kt : TypeId} {q kk : IntKind} {n : Int} {b : Bool} (w : World) (hk : (underlying kt).run P w = .ok (.int q) w) : (Instr.checkKey b 10000 kt (.int kk n)).run P w = .ok () w := by
  have : ∀ m, (Instr.checkKey b (m + 1) kt (.int kk n)).run P w = .ok () w := fun m => by
    simp only [Instr.checkKey, Sem.run_bind, hk, Result.andThen_ok]; rfl
  exact this 9999
theorem run_lookupI {P : Program} {tb : TB} (ht : TOk P tb) (w : World) {t kt et : TypeId} {q kk : IntKind} {s1 : Nat} {a1 : Bool} {z1 : Value} {y1 : Nat} {s2 : Nat} {a2 : Bool} {z2 : Value} {y2 : Nat} {i : TI} {b : Nat} {es : Array MapEntry} {clock : Nat} {m : List (Int × Value)} {n : Int} {c : Bool}
    (h1 : lookT tb t = some ⟨.map kt et, s1, a1, z1, y1⟩) (h2 : lookT tb kt = some ⟨.int q, s2, a2, z2, y2⟩) (h3 : lookT tb et = some i) (hb : w.heap[b]? = some (.map es clock)) (hm : MapIs kk es.toList m) :
    (Instr.lookup t (.map (some b)) (.int kk n) c).run P w = .ok (if c then .tuple #[(mget m n).getD i.zero, .bool (mget m n).isSome] else (mget m n).getD i.zero) w := by
  have hu := run_und (ht _ _ h1).u w
  have hk := run_und (ht _ _ h2).u w
  have hz := (ht _ _ h3).zero w
  have hg := MapKept.run_getObj_map (P := P) hb
  have hf := find_now q kk n es.toList m 0 hm
  have hck : (Instr.checkKey es.isEmpty 10000 kt (.int kk n)).run P w = .ok () w := by
    exact run_ckI w hk
  have hfk : (Instr.findKey kt (.int kk n) es.toList).run P w = .ok (match m.findIdx? (fun x => x.1 == n) with | none => none | some j => some (0 + j, (m[j]?.map (·.2)).getD undef)) w := by
    simp [Instr.findKey, hk, hf]
  simp only [Instr.lookup, Sem.run_bind, hu, Result.andThen_ok, hg, Sem.run_pure, hck, hfk]
  rw [mget_idx]
  cases e : m.findIdx? (fun x => x.1 == n) with
  | none => cases c <;> simp [hz]
  | some j =>
    rw [List.findIdx?_eq_some_iff_getElem] at e
    obtain ⟨hj, _, _⟩ := e
    cases c <;> simp [List.getElem?_eq_getElem hj]
/-- v := m[k] (and v, ok := m[k]) of a map of one's own. -/
theorem lookup_val {tb : TB} (ht : TOk C.P tb) {t kt et : TypeId} {x y : Operand} {q kk : IntKind} {s1 : Nat} {a1 : Bool} {z1 : Value} {y1 : Nat} {s2 : Nat} {a2 : Bool} {z2 : Value} {y2 : Nat} {i : TI} {b : Nat} {m : List (Int × Value)} {n : Int} {c : Bool} {rr : List OA} {v : Value}
    (ho : o.op = .lookup t x y c) (hx : ev E x = some (.map (some b))) (hy : ev E y = some (.int kk n)) (h1 : lookT tb t = some ⟨.map kt et, s1, a1, z1, y1⟩) (h2 : lookT tb kt = some ⟨.int q, s2, a2, z2, y2⟩) (h3 : lookT tb et = some i) (hr : Rem (mapO b kk m) Os rr)
    (hv : (if c then Value.tuple #[(mget m n).getD i.zero, .bool (mget m n).isSome] else (mget m n).getD i.zero) = v) :
    ∀ a w hp ho, Fits C.N E a → Sat w hp ho Ps Os → (execOp a.eval o).run C.P w = .ok (.value v) w := fun a w hp ho' hf hs => by
  subst hv
  obtain ⟨g1, la, es, clock, hb, hm⟩ := hr.sep hs.os
  have hbw : w.heap[b]? = some (.map es clock) := hs.ino _ _ (la _ _ hb)
  have := run_lookupI ht w (n := n) (c := c) h1 h2 h3 hbw hm
  simp [execOp, ho, hf.ev hx, hf.ev hy, this]
theorem go_makemap {t : TypeId} {kk : IntKind} (ho : o.op = .makeMap t none) (hw : wants ops E o = some true) (hd : okDst C.N o.dst = true)
    (hS : f = true → ∀ b w hp ho, Sat w hp ho Ps (mapO b kk [] :: Os) → S w)
    (g : ∀ b, Go C (.ops ops S r :: k) (setE o.dst (.map (some b)) E) Ps (mapO b kk [] :: Os)) : Go C (.ops ops S (.one 0 f o r) :: k) E Ps Os :=
  go_eff (fun b => .map (some b)) (fun _ => Ps) (fun b => mapO b kk [] :: Os) hw hd (fun a w hp ho' hf hs hb => by
    obtain ⟨ho2, h1, h2⟩ := sat_alloc hs hb (mapO w.heap.size kk []) (.map #[] 0) (fun h e => ⟨#[], 0, e, rfl⟩)
    refine ⟨w.heap.size, _, hp, ho2, ?_, h1, h2⟩
    simp [execOp, ho, Instr.makeMap, newObj, Sem.run]) hS g
/-- An owned object changed whole. -/
theorem sat_obj {w : World} {hp ho : Heap} {b : Nat} {new : Obj} {A B : OA} {rr : List OA} (h : Rem A Os rr) (hA : ∀ hp g, A.p hp g → ∃ o, g b = some o) (hB : ∀ (hp g : Heap), g b = some new → B.p hp g) (hs : Sat w hp ho Ps Os) (hb : Base C w hp ho) :
    ∃ ho', Sat { w with heap := w.heap.setIfInBounds b new } hp ho' Ps (B :: rr) ∧ Base C { w with heap := w.heap.setIfInBounds b new } hp ho' := by
  obtain ⟨h1, h2, a1, b1, c1, d0, e1⟩ := Sep.rem h hs.os
  obtain ⟨old, d1⟩ := hA _ _ d0
  have hbo := a1 _ _ d1
  have hbw := hs.ino _ _ hbo
  have hlt : b < w.heap.size := (Array.getElem?_eq_some_iff.1 hbw).1
  have other : ∀ h : Heap, h.le (hpOf w) → h b = none → h.le (hpOf { w with heap := w.heap.setIfInBounds b new }) := fun h hl hn x u e => by
    have hx : x ≠ b := fun q => by subst q; rw [hn] at e; cases e
    have := hl _ _ e
    simp only [hpOf] at this ⊢
    rw [Array.getElem?_setIfInBounds_ne (Ne.symm hx)]
    exact this
  have n2 : h2 b = none := by rcases c1 b with q | q; · rw [d1] at q; cases q
                              · exact q
  have np : hp b = none := by rcases hs.dj b with q | q; · exact q
                              · rw [hbo] at q; cases q
  have nf : C.hf b = none := by rcases hb.djo b with q | q; · exact q
                                · rw [hbo] at q; cases q
  have nw : (Heap.one b new).le (hpOf { w with heap := w.heap.setIfInBounds b new }) := Heap.one_le (by simp [hpOf, hlt])
  have dd : (Heap.one b new).dj h2 := Heap.one_dj n2
  refine ⟨(Heap.one b new).add h2, ⟨other hp hs.inp np, Heap.add_le nw (other h2 (b1.tr hs.ino) n2), Heap.dj_symm (Heap.add_dj (Heap.one_dj np) (Heap.dj_symm (Heap.dj_le hs.dj (Heap.le_refl _) b1))), hs.ps,
    _, h2, Heap.le_add_left _ _, Heap.le_add_right dd, dd, hB _ _ (by simp [Heap.one]), e1⟩, hb.hp0, other _ hb.hf nf, hb.djp,
    Heap.dj_symm (Heap.add_dj (Heap.one_dj nf) (Heap.dj_symm (Heap.dj_le hb.djo (Heap.le_refl _) b1))), hb.rest.os, hb.rest.tape, hb.rest.output, hb.rest.drawn, ?_⟩
  have := hb.rest.size
  simpa using this
theorem run_msetI {P : Program} {tb : TB} (ht : TOk P tb) (w : World) {t kt et : TypeId} {q kk : IntKind} {s1 : Nat} {a1 : Bool} {z1 : Value} {y1 : Nat} {s2 : Nat} {a2 : Bool} {z2 : Value} {y2 : Nat} {b : Nat} {es : Array MapEntry} {clock : Nat} {m : List (Int × Value)} {n : Int} {v : Value}
    (h1 : lookT tb t = some ⟨.map kt et, s1, a1, z1, y1⟩) (h2 : lookT tb kt = some ⟨.int q, s2, a2, z2, y2⟩) (hb : w.heap[b]? = some (.map es clock)) (hm : MapIs kk es.toList m) :
    ∃ es' clock', (Instr.mapUpdate t (.map (some b)) (.int kk n) v).run P w = .ok () { w with heap := w.heap.setIfInBounds b (.map es' clock') } ∧ MapIs kk es'.toList (mset m n v) := by
  have hu := run_und (ht _ _ h1).u w
  have hk := run_und (ht _ _ h2).u w
  have hg := MapKept.run_getObj_map (P := P) hb
  have hf := find_now q kk n es.toList m 0 hm
  have hck : (Instr.checkKey false 10000 kt (.int kk n)).run P w = .ok () w := by
    exact run_ckI w hk
  have hfk : (Instr.findKey kt (.int kk n) es.toList).run P w = .ok (match m.findIdx? (fun x => x.1 == n) with | none => none | some j => some (0 + j, (m[j]?.map (·.2)).getD undef)) w := by
    simp [Instr.findKey, hk, hf]
  unfold mset
  cases e : m.findIdx? (fun x => x.1 == n) with
  | none =>
    rw [e] at hfk
    refine ⟨es.push { key := .int kk n, val := v, born := clock }, clock + 1, ?_, ?_⟩
    · simp only [Instr.mapUpdate, Sem.run_bind, hu, Result.andThen_ok, hg, hck, hfk, MapKept.run_setObj_map _ hb]
    · simp only [MapIs, Array.toList_push, List.map_append, List.map_cons, List.map_nil, kv]
      rw [hm]
  | some j =>
    rw [e] at hfk
    rw [List.findIdx?_eq_some_iff_getElem] at e
    obtain ⟨hj, hjk, _⟩ := e
    have hlen : es.toList.length = m.length := by have := congrArg List.length hm; simpa using this
    have hje : j < es.size := by rw [← Array.length_toList, hlen]; exact hj
    have hkey : es[j].key = .int kk n := by
      have h3 : (es.toList.map kv)[j]? = (m.map fun x => (Value.int kk x.1, x.2))[j]? := by rw [hm]
      rw [List.getElem?_map, List.getElem?_map, List.getElem?_eq_getElem hj, Array.getElem?_toList, Array.getElem?_eq_getElem hje] at h3
      simp only [Option.map_some, Option.some.injEq, kv, Prod.mk.injEq] at h3
      rw [h3.1]
      simp only [beq_iff_eq] at hjk
      rw [hjk]
    have hst : (Instr.keyThatStays (((es[0 + j]?).map (·.key)).getD (.int kk n)) (.int kk n)).run P w = .ok (.int kk n) w := by
      rw [Nat.zero_add, Array.getElem?_eq_getElem hje]
      simp [Instr.keyThatStays, hkey, Instr.sameBits]
    refine ⟨es.modify (0 + j) fun e => { e with key := .int kk n, val := v }, clock, ?_, ?_⟩
    · simp only [Instr.mapUpdate, Sem.run_bind, hu, Result.andThen_ok, hg, hck, hfk, hst, MapKept.run_setObj_map _ hb]
    · unfold MapIs
      apply List.ext_getElem?
      intro i
      have h3 : (es.toList.map kv)[i]? = (m.map fun x => (Value.int kk x.1, x.2))[i]? := by rw [hm]
      rw [List.getElem?_map, List.getElem?_map] at h3
      rw [List.getElem?_map, List.getElem?_map, Array.getElem?_toList, Array.getElem?_modify, List.getElem?_modify, Nat.zero_add]
      by_cases hij : j = i
      · subst hij
        simp only [beq_iff_eq] at hjk
        simp [Array.getElem?_eq_getElem hje, List.getElem?_eq_getElem hj, kv, hjk]
      · rw [Array.getElem?_toList] at h3
        simp only [if_neg hij, Option.map_id, id]
        simpa using h3
/-- m[k] = v of a map of one's own. -/
theorem go_mset {tb : TB} (ht : TOk C.P tb) {t kt et : TypeId} {x y z : Operand} {q kk : IntKind} {s1 : Nat} {a1 : Bool} {z1 : Value} {y1 : Nat} {s2 : Nat} {a2 : Bool} {z2 : Value} {y2 : Nat} {b : Nat} {m : List (Int × Value)} {n : Int} {v : Value} {rr : List OA}
    (ho : o.op = .mapUpdate t x y z) (hw : wants ops E o = some true) (hx : ev E x = some (.map (some b))) (hy : ev E y = some (.int kk n)) (hz : ev E z = some v) (h1 : lookT tb t = some ⟨.map kt et, s1, a1, z1, y1⟩) (h2 : lookT tb kt = some ⟨.int q, s2, a2, z2, y2⟩) (hd : okDst C.N o.dst = true)
    (hr : Rem (mapO b kk m) Os rr) (hS : f = true → ∀ w hp ho, Sat w hp ho Ps (mapO b kk (mset m n v) :: rr) → S w)
    (g : Go C (.ops ops S r :: k) (setE o.dst undef E) Ps (mapO b kk (mset m n v) :: rr)) : Go C (.ops ops S (.one 0 f o r) :: k) E Ps Os :=
  go_effU Ps (mapO b kk (mset m n v) :: rr) hw hd (fun a w hp ho' hf hs hb => by
    obtain ⟨g1, la, es, clock, hbb, hm⟩ := hr.sep hs.os
    have hbw : w.heap[b]? = some (.map es clock) := hs.ino _ _ (la _ _ hbb)
    obtain ⟨es', clock', hrun, hm'⟩ := run_msetI ht w (n := n) (v := v) h1 h2 hbw hm
    obtain ⟨ho2, q1, q2⟩ := sat_obj (C := C) (new := .map es' clock') (B := mapO b kk (mset m n v)) hr (fun hp g ⟨es, clock, e, _⟩ => ⟨_, e⟩) (fun hp g e => ⟨es', clock', e, hm'⟩) hs hb
    exact ⟨_, hp, ho2, by simp [execOp, ho, hf.ev hx, hf.ev hy, hf.ev hz, hrun], q1, q2⟩) hS g
end
end Go.Proofs.Ytkhddfknpegpmaa.SL

/- Ranging over a function, the body may leave it by a return. -/
set_option linter.unusedVariables false
set_option linter.unusedSimpArgs false
namespace Go.Proofs.Ytkhddfknpegpmaa.SL
/-- A loop's yield that may say 'no more'. -/
structure YldS (P : Program) (l : Nat) {α : Type} (enc : α → Value) (Px : List α → α → List PA) (R St : List α → OA) : Prop where
  go : ∀ (pre : List α) (x : α) (w : World) (hp ho hf : Heap), Sat w hp ho (Px pre x) [R pre] → hf.le (hpOf w) → hf.dj hp → hf.dj ho →
    ∃ fn tmps assign body, (Instr.yield l #[enc x]).run P w = .ok (.round l fn tmps assign body) w ∧
      RoundIn Fence.wide 0 P l fn tmps assign body w (fun e w' => ∃ hp' ho' b, e = .returned (.bool b) ∧ Sat w' hp' ho' [] [cond b (R (pre ++ [x])) (St (pre ++ [x]))] ∧ hp.le hp' ∧ hf.le (hpOf w') ∧ hf.dj hp' ∧ hf.dj ho' ∧ Rest w w')
section
variable {C : Ctx} {k : List It} {E : Env} {Ps : List PA} {Os : List OA}
variable {o : Oper} {ops : Array Oper} {S : World → Prop} {r : Pl} {f : Bool}
theorem go_yieldS {α : Type} {enc : α → Value} {Px : List α → α → List PA} {R St : List α → OA} {l : Nat} (hy : YldS C.P l enc Px R St) (pre : List α) (x : α) {fx ax : Operand} {tys : Array TypeId} {rr : List OA} (ho : o.op = .call ⟨.value fx, #[ax], tys⟩) (hw : wants ops E o = some true)
    (hfx : ev E fx = some (.func (.yield l) #[] #[])) (hax : ev E ax = some (enc x)) (hd : okDst C.N o.dst = true) (hP : Subs Ps (Px pre x)) (hO : Takes Os [R pre] rr)
    (g : ∀ b, Go C (.ops ops S r :: k) (setE o.dst (.bool b) E) Ps (cond b (R (pre ++ [x])) (St (pre ++ [x])) :: rr)) : Go C (.ops ops S (.yld o r) :: k) E Ps Os := fun a w hp ho' hf hs hb => by
  show rwp _ _ _ _ _ _ _
  rw [rwp, if_pos (wants_eq hf hw)]
  obtain ⟨h1, h2, a1, b1, c1, d1, e1⟩ := Sep.takes hO hs.os
  obtain ⟨fn, tmps, assign, body, hrun, hround⟩ := hy.go pre x w hp h1 (C.hf.add h2) ⟨hs.inp, a1.tr hs.ino, Heap.dj_le hs.dj (Heap.le_refl _) a1, (hs.ents hP.ents).ps, d1⟩ (Heap.add_le hb.hf (b1.tr hs.ino))
    (Heap.add_dj hb.djp (Heap.dj_symm (Heap.dj_le hs.dj (Heap.le_refl _) b1))) (Heap.add_dj (Heap.dj_le hb.djo (Heap.le_refl _) a1) (Heap.dj_symm c1))
  have hex : (execOp a.eval o).run C.P w = .ok (.round l fn tmps assign body) w := by
    simp [execOp, ho, resolve, hf.ev hfx, hf.ev hax, Deferred.ofValue, invoke, hrun]
  refine ⟨fun _ _ => trivial, ?_⟩
  rw [show Fence.wide.round = none from rfl, Oper.semAt_none, hex, Oper.uponIn_round]
  refine ⟨fun h => by simp [Fence.wide] at h, hround.mono ?_⟩
  rintro e w' ⟨hp', ho2, b, rfl, hs', hle, hfl, djp, djo, hrest⟩
  have dfo : C.hf.dj h2 := Heap.dj_le hb.djo (Heap.le_refl _) b1
  have l2 : h2.le (C.hf.add h2) := Heap.le_add_right dfo
  have dA : ho2.dj h2 := Heap.dj_symm (Heap.dj_le djo l2 (Heap.le_refl _))
  have dB : hp'.dj h2 := Heap.dj_symm (Heap.dj_le djp l2 (Heap.le_refl _))
  have sat : Sat w' hp' (ho2.add h2) Ps ([cond b (R (pre ++ [x])) (St (pre ++ [x]))] ++ rr) := ⟨hs'.inp, Heap.add_le hs'.ino (l2.tr hfl), Heap.dj_symm (Heap.add_dj (Heap.dj_symm hs'.dj) (Heap.dj_symm dB)),
    fun p hp0 => p.up hle (hs.ps p hp0), Sep.app (Heap.le_add_left _ _) (Heap.le_add_right dA) dA hs'.os (Sep.up hle e1)⟩
  have base : Base C w' hp' (ho2.add h2) := ⟨hb.hp0.tr hle, (Heap.le_add_left _ _).tr hfl, Heap.dj_le djp (Heap.le_add_left _ _) (Heap.le_refl _),
    Heap.dj_symm (Heap.add_dj (Heap.dj_symm (Heap.dj_le djo (Heap.le_add_left _ _) (Heap.le_refl _))) (Heap.dj_symm dfo)), hb.rest.trans hrest⟩
  exact g b _ w' hp' _ (hf.put hd (.bool b)) sat base
theorem go_yield2 {α : Type} {enc : α → Value} {Px : List α → α → List PA} {R St : List α → OA} {l : Nat} (hy : YldS C.P l enc Px R St) (pre : List α) (x : α) {fx ax : Operand} {tys : Array TypeId} {rr : List OA} (ho : o.op = .call ⟨.value fx, #[ax], tys⟩) (hw : wants ops E o = some true)
    (hfx : ev E fx = some (.func (.yield l) #[] #[])) (hax : ev E ax = some (enc x)) (hd : okDst C.N o.dst = true) (hP : Subs Ps (Px pre x)) (hO : Takes Os [R pre] rr)
    (g1 : Go C (.ops ops S r :: k) (setE o.dst (.bool true) E) Ps (R (pre ++ [x]) :: rr)) (g2 : Go C (.ops ops S r :: k) (setE o.dst (.bool false) E) Ps (St (pre ++ [x]) :: rr)) : Go C (.ops ops S (.yld o r) :: k) E Ps Os :=
  go_yieldS hy pre x ho hw hfx hax hd hP hO fun b => by cases b; exact g2; exact g1
end
/-- Where a round's return leads. -/
def stopB (P : Program) (n l : Nat) (w0 : World) (hp0 hf : Heap) (Os' : List OA) : Act → World → Prop := fun _ w => ∃ hp ho, Sat w hp ho [] Os' ∧ Base (rc P n l w0 hp0 hf) w hp ho
def stopF (B : Act → World → Prop) : Exit → Act → World → Prop
  | .ret => B
  | _ => fun _ _ => False
def rcS (P : Program) (n l : Nat) (w0 : World) (hp0 hf : Heap) (Os' : List OA) : Ctx := ⟨P, default, ⟨n, []⟩, some l, w0, hp0, hf, fun _ _ _ => False, stopF (stopB P n l w0 hp0 hf Os'), fun _ _ _ h => h, fun _ _ h => h⟩
section
variable {C : Ctx} {k : List It} {E : Env} {Ps : List PA} {Os : List OA}
theorem go_stop {P : Program} {n l : Nat} {w0 : World} {hp0 hf0 : Heap} {Os' r : List OA} (hO : Takes Os Os' r) : Go (rcS P n l w0 hp0 hf0 Os') (.code .ret :: k) E Ps Os := fun a w hp ho hf hs hb =>
  wpIn_ret (by
    show den (some l) P (stopF (stopB P n l w0 hp0 hf0 Os')) k .ret a w
    rw [den_ret]
    obtain ⟨h1, h2, a1, b1, c1, d1, e1⟩ := Sep.takes hO hs.os
    exact ⟨hp, h1, ⟨hs.inp, a1.tr hs.ino, Heap.dj_le hs.dj (Heap.le_refl _) a1, (fun _ h => nomatch h), d1⟩, hb.hp0, hb.hf, hb.djp, Heap.dj_le hb.djo (Heap.le_refl _) a1, hb.rest⟩)
theorem roundsS {P : Program} {n l t : Nat} {α : Type} {enc : α → Value} {Px : List α → α → List PA} {assign body : Code} {tmps : Array Value} {fn : FuncId} {D : Nat} (O Ox : List α → List OA) (hN : tmps.size = n) (ht : Nat.blt t n = true) (hE : ∀ d v, look E d = some v → tmps[d]? = some v)
    {X : Type} (chg : X → Env) (rest : Env) (O1 : List α → α → X → List OA) (J : List α → α → X → Prop)
    (ha : ∀ pre x w0 hp0 hf0, Go (rc P n l w0 hp0 hf0) [.code assign, .back (Bk (rc P n l w0 hp0 hf0) chg rest (fun _ => Px pre x ++ Ps) (O1 pre x) (J pre x) (fun _ => 0) 1)] ((t, enc x) :: E) (Px pre x ++ Ps) (O pre))
    (hb : ∀ pre x y, J pre x y → ∀ w0 hp0 hf0, Go (rcS P n l w0 hp0 hf0 (Ox (pre ++ [x]))) [.code body, .back (Bk (rcS P n l w0 hp0 hf0 (Ox (pre ++ [x]))) (fun _ : Unit => []) [] (fun _ => Ps) (fun _ => O (pre ++ [x])) (fun _ => True) (fun _ => 0) 1)] (chg y ++ rest) (Px pre x ++ Ps) (O1 pre x y)) :
    YldS P l enc Px (fun pre => loopA Ps l { state := .ready, pending := none, fn, tmps, params := #[t], assign, body, defers := D } (O pre)) (fun pre => loopA Ps l { state := .done, pending := some .ret, fn, tmps, params := #[t], assign, body, defers := D } (Ox pre)) := ⟨fun pre x w hp ho hf hs hfw d1 d2 => by
  generalize hrec : ({ state := .ready, pending := none, fn, tmps, params := #[t], assign, body, defers := D } : Loop) = rec at *
  obtain ⟨g1, _, la, _, _, ⟨hps, h2, lb, lr, dr, sO⟩, _⟩ := hs.os
  have lro : (Heap.one l (.loop rec)).le ho := lr.tr la
  have hl : w.heap[l]? = some (.loop rec) := hs.ino _ _ (lro _ _ (one_at _ _))
  have hyr := run_yield (P := P) (args := #[enc x]) hl (by rw [← hrec]; rfl)
  refine ⟨_, _, _, _, hyr, ?_⟩
  have dfr : hf.dj (Heap.one l (.loop rec)) := Heap.dj_le d2 (Heap.le_refl _) lro
  have dpr : hp.dj (Heap.one l (.loop rec)) := Heap.dj_le hs.dj (Heap.le_refl _) lro
  have lO : h2.le ho := lb.tr la
  have fl : hf l = none := by
    rcases dfr l with q | q
    · exact q
    · rw [one_at] at q; cases q
  refine roundIn_of_wpIn (F := Fence.wide) (n := 0) trivial ?_
  have hfit : Fits ⟨n, []⟩ ((t, enc x) :: E) { tmps := (rec.params.zip #[enc x]).foldl (fun tmps (t, a) => tmps.setIfInBounds t a) rec.tmps, defers := [] } := by
    have hz : (rec.params.zip #[enc x]).foldl (fun tmps (t, a) => tmps.setIfInBounds t a) rec.tmps = tmps.setIfInBounds t (enc x) := by rw [← hrec]; simp
    rw [hz]
    refine ⟨by simp [hN], rfl, fun d v e => ?_⟩
    simp only [look] at e
    have htl : t < tmps.size := by rw [hN]; exact Nat.le_of_ble_eq_true ht
    show (tmps.setIfInBounds t (enc x))[d]? = some v
    cases hbq : Nat.beq t d with
    | true =>
      rw [hbq] at e
      simp at e
      subst e
      rw [← Nat.eq_of_beq_eq_true hbq]
      simp [htl]
    | false =>
      rw [hbq] at e
      have hne : t ≠ d := fun q => by subst q; rw [Nat.beq_refl] at hbq; cases hbq
      rw [Array.getElem?_setIfInBounds_ne hne]
      exact hE d v e
  have hpx : ∀ p, p ∈ Px pre x ++ Ps → p.p hp := fun p hm => by
    rcases List.mem_append.1 hm with q | q
    · exact hs.ps p q
    · exact hps p q
  have sat1 : Sat w hp h2 (Px pre x ++ Ps) (O pre) := ⟨hs.inp, lO.tr hs.ino, Heap.dj_le hs.dj (Heap.le_refl _) lO, hpx, sO⟩
  have hfr : (hf.add (Heap.one l (.loop rec))).le (hpOf w) := Heap.add_le hfw (lro.tr hs.ino)
  have base1 : Base (rc P n l w hp (hf.add (Heap.one l (.loop rec)))) w hp h2 := ⟨Heap.le_refl _, hfr, Heap.add_dj d1 (Heap.dj_symm dpr), Heap.add_dj (Heap.dj_le d2 (Heap.le_refl _) lO) dr, .refl _⟩
  have step1 := ha pre x w hp (hf.add (Heap.one l (.loop rec))) _ w hp h2 hfit sat1 base1
  rw [show rec.assign = assign from by rw [← hrec], show rec.body = body from by rw [← hrec]]
  refine wpIn_mono (show assign.wpIn (Fence.wide.inRound l) 0 P _ _ w from step1) fun e a1 w1 q => ?_
  cases e with
  | normal =>
    obtain ⟨y, hp1, ho1, f1, s1, b1, j1, _⟩ := q
    have hl1 : w1.heap[l]? = some (.loop rec) := b1.hf _ _ (Heap.le_add_right dfr _ _ (one_at _ _))
    refine ⟨_, run_beginRound hl1 (by rw [← hrec]), ?_⟩
    have r1 : (Heap.one l (.loop rec)).dj hp1 := Heap.dj_le b1.djp (Heap.le_add_right dfr) (Heap.le_refl _)
    have r2 : (Heap.one l (.loop rec)).dj ho1 := Heap.dj_le b1.djo (Heap.le_add_right dfr) (Heap.le_refl _)
    have r3 : hf.dj hp1 := Heap.dj_le b1.djp (Heap.le_add_left _ _) (Heap.le_refl _)
    have r4 : hf.dj ho1 := Heap.dj_le b1.djo (Heap.le_add_left _ _) (Heap.le_refl _)
    have dfb : ∀ o', hf.dj (Heap.one l o') := fun o' => Heap.dj_symm (dj_one (Heap.dj_symm dfr))
    have step2 := hb pre x y j1 (w1.putObj l (.loop { rec with state := .busy })) hp1 (hf.add (Heap.one l (.loop { rec with state := .busy }))) a1 _ hp1 ho1 f1
      ⟨put_le s1.inp (dj_at r1 (one_at _ _)), put_le s1.ino (dj_at r2 (one_at _ _)), s1.dj, s1.ps, s1.os⟩
      ⟨Heap.le_refl _, Heap.add_le (put_le ((Heap.le_add_left _ _).tr b1.hf) fl) (put_one hl1), Heap.add_dj r3 (dj_one r1), Heap.add_dj r4 (dj_one r2), .refl _⟩
    refine wpIn_mono (show body.wpIn (Fence.wide.inRound l) 0 P _ _ _ from step2) fun e2 a2 w3 q2 => ?_
    cases e2 with
    | normal =>
      obtain ⟨_, hp3, ho3, f3, s3, b3, _, _⟩ := q2
      have hl3 : w3.heap[l]? = some (.loop { rec with state := .busy }) := b3.hf _ _ (Heap.le_add_right (dfb _) _ _ (one_at _ _))
      have he := run_endRound (P := P) none hl3
      have hrr : ({ { rec with state := LoopState.busy } with state := if (none : Option Code).isNone then LoopState.ready else LoopState.done, pending := none } : Loop) = rec := by rw [← hrec]; rfl
      rw [hrr] at he
      refine ⟨_, _, he, ?_⟩
      have t1 : (Heap.one l (.loop { rec with state := .busy })).dj hp3 := Heap.dj_le b3.djp (Heap.le_add_right (dfb _)) (Heap.le_refl _)
      have t2 : (Heap.one l (.loop { rec with state := .busy })).dj ho3 := Heap.dj_le b3.djo (Heap.le_add_right (dfb _)) (Heap.le_refl _)
      have t3 : hf.dj hp3 := Heap.dj_le b3.djp (Heap.le_add_left _ _) (Heap.le_refl _)
      have t4 : hf.dj ho3 := Heap.dj_le b3.djo (Heap.le_add_left _ _) (Heap.le_refl _)
      have dN : (Heap.one l (.loop rec)).dj ho3 := dj_one t2
      refine ⟨hp3, (Heap.one l (.loop rec)).add ho3, true, rfl, ⟨put_le s3.inp (dj_at t1 (one_at _ _)), Heap.add_le (put_one hl3) (put_le s3.ino (dj_at t2 (one_at _ _))), Heap.dj_symm (Heap.add_dj (dj_one t1) (Heap.dj_symm s3.dj)), (fun _ h => nomatch h),
          sep_one ⟨s3.ps, ho3, Heap.le_add_right dN, Heap.le_add_left _ _, dN, s3.os⟩⟩, b1.hp0.tr b3.hp0, put_le ((Heap.le_add_left _ _).tr b3.hf) fl, t3, Heap.dj_symm (Heap.add_dj (Heap.dj_symm (dfb _)) (Heap.dj_symm t4)),
          (b1.rest.trans put_rest).trans (b3.rest.trans put_rest)⟩
    | ret =>
      obtain ⟨hp3, ho3, s3, b3⟩ := q2
      have hl3 : w3.heap[l]? = some (.loop { rec with state := .busy }) := b3.hf _ _ (Heap.le_add_right (dfb _) _ _ (one_at _ _))
      have he := run_endRound (P := P) (some Code.ret) hl3
      generalize hrs : ({ { rec with state := LoopState.busy } with state := if (some Code.ret).isNone then LoopState.ready else LoopState.done, pending := some Code.ret } : Loop) = recS at he
      have hrS : ({ state := .done, pending := some .ret, fn, tmps, params := #[t], assign, body, defers := D } : Loop) = recS := by rw [← hrs, ← hrec]; rfl
      rw [hrS]
      refine ⟨_, _, he, ?_⟩
      have t1 : (Heap.one l (.loop { rec with state := .busy })).dj hp3 := Heap.dj_le b3.djp (Heap.le_add_right (dfb _)) (Heap.le_refl _)
      have t2 : (Heap.one l (.loop { rec with state := .busy })).dj ho3 := Heap.dj_le b3.djo (Heap.le_add_right (dfb _)) (Heap.le_refl _)
      have t3 : hf.dj hp3 := Heap.dj_le b3.djp (Heap.le_add_left _ _) (Heap.le_refl _)
      have t4 : hf.dj ho3 := Heap.dj_le b3.djo (Heap.le_add_left _ _) (Heap.le_refl _)
      have dN : (Heap.one l (.loop recS)).dj ho3 := dj_one t2
      refine ⟨hp3, (Heap.one l (.loop recS)).add ho3, false, rfl, ⟨put_le s3.inp (dj_at t1 (one_at _ _)), Heap.add_le (put_one hl3) (put_le s3.ino (dj_at t2 (one_at _ _))), Heap.dj_symm (Heap.add_dj (dj_one t1) (Heap.dj_symm s3.dj)), (fun _ h => nomatch h),
          sep_one ⟨fun p hp => p.up b3.hp0 (s1.ps p (List.mem_append_right _ hp)), ho3, Heap.le_add_right dN, Heap.le_add_left _ _, dN, s3.os⟩⟩, b1.hp0.tr b3.hp0, put_le ((Heap.le_add_left _ _).tr b3.hf) fl, t3, Heap.dj_symm (Heap.add_dj (Heap.dj_symm (dfb _)) (Heap.dj_symm t4)),
          (b1.rest.trans put_rest).trans (b3.rest.trans put_rest)⟩
    | exit i => exact q2.elim
    | goto i => exact q2.elim
    | panic c => exact q2.elim
    | outgrown => exact q2.elim
  | exit i => exact q.elim
  | goto i => exact q.elim
  | ret => exact q.elim
  | panic c => exact q.elim
  | outgrown => exact q.elim⟩
theorem go_rangeS {α : Type} {enc : α → Value} {Px : List α → α → List PA} {g : Operand} {t : Nat} {assign body : Code} {gf : FuncId} {first cap : Array Value} (hro : C.ro = none) (hg : ev E g = some (.func (.func gf) first cap)) (ht : Nat.blt t C.N.n = true)
    (O Ox : List α → List OA) (OsI OsI' : List OA) {r1 rr : List OA} (hO1 : Takes Os OsI r1) (hO2 : Takes r1 (O []) rr) (PsI : List PA) (hP : Subs Ps PsI) (Sx Tx : List α → Prop)
    (hseq : ∀ (l : Nat) (R St : List α → OA), YldS C.P l enc Px R St → Spec C.P gf (first ++ #[.func (.yield l) #[] #[]] ++ cap) PsI (R [] :: OsI) (fun v Ps' Os' => Ps' = [] ∧ ((∃ xs, Sx xs ∧ Os' = R xs :: OsI') ∨ (∃ xs, Tx xs ∧ Os' = St xs :: OsI'))))
    {X : Type} (chg : X → Env) (rest : Env) (O1 : List α → α → X → List OA) (J : List α → α → X → Prop)
    (ha : ∀ l pre x w0 hp0 hf0, Go (rc C.P C.N.n l w0 hp0 hf0) [.code assign, .back (Bk (rc C.P C.N.n l w0 hp0 hf0) chg rest (fun _ => Px pre x ++ Ps) (O1 pre x) (J pre x) (fun _ => 0) 1)] ((t, enc x) :: E) (Px pre x ++ Ps) (O pre))
    (hb : ∀ l pre x y, J pre x y → ∀ w0 hp0 hf0, Go (rcS C.P C.N.n l w0 hp0 hf0 (Ox (pre ++ [x]))) [.code body, .back (Bk (rcS C.P C.N.n l w0 hp0 hf0 (Ox (pre ++ [x]))) (fun _ : Unit => []) [] (fun _ => Ps) (fun _ => O (pre ++ [x])) (fun _ => True) (fun _ => 0) 1)] (chg y ++ rest) (Px pre x ++ Ps) (O1 pre x y))
    (done : ∀ D xs, C.hf.dj (Heap.one D (.deferred (some []))) → Sx xs → Go (after C D) k E Ps (OsI' ++ (O xs ++ rr)))
    (stop : ∀ D xs, C.hf.dj (Heap.one D (.deferred (some []))) → Tx xs → Go (after C D) (.code .ret :: k) E Ps (OsI' ++ (Ox xs ++ rr))) : Go C (.code (.rangeFunc g #[t] assign body) :: k) E Ps Os := by
  obtain ⟨P, fn, N, ro, w0, hp0, hf0, Q, fin, pan, out⟩ := C
  cases hro
  intro a w hp ho hf hs hb'
  obtain ⟨hI, hr1, aI, ar1, dI, sI, sr1⟩ := Sep.takes hO1 hs.os
  obtain ⟨hO, hR, aO, aR, dO, sO, sR⟩ := Sep.takes hO2 sr1
  show (Code.rangeFunc g #[t] assign body).wpIn Fence.wide 0 P (den none P fin k) a w
  refine wpIn_rangeFunc fun fnid _ => ?_
  generalize hrec : ({ state := .ready, pending := none, fn := fnid, tmps := a.tmps, params := #[t], assign, body, defers := w.heap.size } : Loop) = rec
  have hY := roundsS (Ps := Ps) (E := E) (Px := Px) (P := P) (n := N.n) (l := w.heap.size + 1) (t := t) (enc := enc) (assign := assign) (body := body) (tmps := a.tmps) (fn := fnid) (D := w.heap.size) O Ox hf.size ht hf.at_ chg rest O1 J (ha _) (hb _)
  rw [hrec] at hY
  have hsp := hseq (w.heap.size + 1) _ _ hY
  obtain ⟨fd, q1, q2, q3⟩ := hsp.fn
  have hres : (resolve a.eval (rangeCall g (w.heap.size + 1)) 0).run P ((w.alloc (.deferred (some []))).alloc (.loop rec)) = .ok { target := .fn (.func gf) cap, args := first ++ #[.func (.yield (w.heap.size + 1)) #[] #[]] } ((w.alloc (.deferred (some []))).alloc (.loop rec)) := by
    have hg' : a.eval g = .func (.func gf) first cap := hf.ev hg
    show (Deferred.ofValue (a.eval g) (#[Operand.const (.func (.yield (w.heap.size + 1)) #[] #[])].map a.eval)).run P _ = _
    rw [hg']
    simp [Deferred.ofValue, Act.eval]
  have hinv : (invoke (.fn (.func gf) cap) (first ++ #[.func (.yield (w.heap.size + 1)) #[] #[]])).run P ((w.alloc (.deferred (some []))).alloc (.loop rec)) = .ok (.enter gf (first ++ #[.func (.yield (w.heap.size + 1)) #[] #[]] ++ cap)) ((w.alloc (.deferred (some []))).alloc (.loop rec)) := by
    simp only [invoke, callFunc, program, bind, Sem.bind, Sem.run, q1, q2, q3]
    simp only [Bool.false_eq_true, if_false]
    rfl
  refine ⟨_, _, _, _, _, gf, _, _, by have := run_enterLoop_outer (P := P) (w := w) fnid a.tmps #[t] assign body; rw [hrec] at this; exact this, hres, fun _ _ => trivial, hinv, fun h => by simp [Fence.wide] at h, ?_⟩
  have hwsz : ((w.alloc (.deferred (some []))).alloc (.loop rec)).heap = (w.heap.push (.deferred (some []))).push (.loop rec) := rfl
  have fresh : ∀ h : Heap, h.le (hpOf w) → ∀ b, w.heap.size ≤ b → h b = none := fun h hl b hb => by
    cases e : h b with
    | none => rfl
    | some u => have := hl _ _ e; simp [hpOf] at this; have := (Array.getElem?_eq_some_iff.1 this).1; omega
  have grow : (hpOf w).le (hpOf ((w.alloc (.deferred (some []))).alloc (.loop rec))) := fun b u e => by
    have hlt : b < w.heap.size := (Array.getElem?_eq_some_iff.1 e).1
    simp only [hpOf, hwsz] at e ⊢
    rw [Array.getElem?_push_lt (by simp; omega)]
    simp only [Option.some.injEq]
    rw [Array.getElem_push_lt hlt]
    exact (Array.getElem?_eq_some_iff.1 e).2
  have hD : ((w.alloc (.deferred (some []))).alloc (.loop rec)).heap[w.heap.size]? = some (.deferred (some [])) := by
    rw [hwsz, Array.getElem?_push, Array.getElem?_push]; simp
  have hL : ((w.alloc (.deferred (some []))).alloc (.loop rec)).heap[w.heap.size + 1]? = some (.loop rec) := by
    rw [hwsz, Array.getElem?_push, if_pos (by simp)]
  have oneD : (Heap.one w.heap.size (.deferred (some []))).le (hpOf ((w.alloc (.deferred (some []))).alloc (.loop rec))) := Heap.one_le hD
  have oneL : (Heap.one (w.heap.size + 1) (.loop rec)).le (hpOf ((w.alloc (.deferred (some []))).alloc (.loop rec))) := Heap.one_le hL
  have djD : ∀ h : Heap, h.le (hpOf w) → (Heap.one w.heap.size (.deferred (some []))).dj h := fun h hl => Heap.one_dj (fresh h hl _ (Nat.le_refl _))
  have djL : ∀ h : Heap, h.le (hpOf w) → ∀ o', (Heap.one (w.heap.size + 1) o').dj h := fun h hl o' => Heap.one_dj (fresh h hl _ (by omega))
  have djDL : ∀ o', (Heap.one w.heap.size (.deferred (some []))).dj (Heap.one (w.heap.size + 1) o') := fun o' => Heap.one_dj (by simp [Heap.one])
  have hr0 : Rest w ((w.alloc (.deferred (some []))).alloc (.loop rec)) := ⟨rfl, rfl, rfl, Nat.le_refl _, by rw [hwsz]; simp; omega⟩
  have lI : hI.le (hpOf w) := aI.tr hs.ino
  have lr1 : hr1.le (hpOf w) := ar1.tr hs.ino
  have lO : hO.le (hpOf w) := aO.tr lr1
  have lR : hR.le (hpOf w) := aR.tr lr1
  -- the owned of the call: the record, the body's, the iterator's
  have dLO : (Heap.one (w.heap.size + 1) (.loop rec)).dj hO := djL _ lO _
  have dIO : hI.dj hO := Heap.dj_le dI (Heap.le_refl _) aO
  have dIR : hI.dj hR := Heap.dj_le dI (Heap.le_refl _) aR
  have dX : ((Heap.one (w.heap.size + 1) (.loop rec)).add hO).dj hI := Heap.add_dj (djL _ lI _) (Heap.dj_symm dIO)
  have dpO : hp.dj hO := Heap.dj_le hs.dj (Heap.le_refl _) (aO.tr ar1)
  have dpI : hp.dj hI := Heap.dj_le hs.dj (Heap.le_refl _) aI
  have dpR : hp.dj hR := Heap.dj_le hs.dj (Heap.le_refl _) (aR.tr ar1)
  have satI : Sat ((w.alloc (.deferred (some []))).alloc (.loop rec)) hp (((Heap.one (w.heap.size + 1) (.loop rec)).add hO).add hI) PsI (loopA Ps (w.heap.size + 1) rec (O []) :: OsI) :=
    ⟨hs.inp.tr grow, Heap.add_le (Heap.add_le oneL (lO.tr grow)) (lI.tr grow), Heap.dj_symm (Heap.add_dj (Heap.add_dj (djL _ hs.inp _) (Heap.dj_symm dpO)) (Heap.dj_symm dpI)), (hs.ents hP.ents).ps,
      (Heap.one (w.heap.size + 1) (.loop rec)).add hO, hI, Heap.le_add_left _ _, Heap.le_add_right dX, dX, ⟨hs.ps, hO, Heap.le_add_right dLO, Heap.le_add_left _ _, dLO, sO⟩, sI⟩
  have fI : hf0.dj hI := Heap.dj_le hb'.djo (Heap.le_refl _) aI
  have fO : hf0.dj hO := Heap.dj_le hb'.djo (Heap.le_refl _) (aO.tr ar1)
  have fR : hf0.dj hR := Heap.dj_le hb'.djo (Heap.le_refl _) (aR.tr ar1)
  have hfw : hf0.le (hpOf w) := hb'.hf
  -- the frame of the call
  have dFD : (hf0.add hR).dj (Heap.one w.heap.size (.deferred (some []))) := Heap.dj_symm (Heap.dj_symm (Heap.add_dj (Heap.dj_symm (djD _ hfw)) (Heap.dj_symm (djD _ lR))))
  have frame : ((hf0.add hR).add (Heap.one w.heap.size (.deferred (some [])))).le (hpOf ((w.alloc (.deferred (some []))).alloc (.loop rec))) := Heap.add_le (Heap.add_le (hfw.tr grow) (lR.tr grow)) oneD
  have fdp : ((hf0.add hR).add (Heap.one w.heap.size (.deferred (some [])))).dj hp := Heap.add_dj (Heap.add_dj hb'.djp (Heap.dj_symm dpR)) (djD _ hs.inp)
  have fdo : ((hf0.add hR).add (Heap.one w.heap.size (.deferred (some [])))).dj (((Heap.one (w.heap.size + 1) (.loop rec)).add hO).add hI) :=
    Heap.dj_symm (Heap.add_dj (Heap.add_dj (Heap.dj_symm (Heap.add_dj (Heap.add_dj (Heap.dj_symm (djL _ hfw _)) (Heap.dj_symm (djL _ lR _))) (djDL _))) (Heap.dj_symm (Heap.add_dj (Heap.add_dj fO (Heap.dj_symm dO)) (djD _ lO)))) (Heap.dj_symm (Heap.add_dj (Heap.add_dj fI (Heap.dj_symm dIR)) (djD _ lI))))
  refine (callsIn_wide.2 (hsp.calls _ hp _ _ satI frame fdp fdo)).mono ?_
  rintro e w3 ⟨v, hp3, ho3, Ps3, Os3, rfl, ⟨rfl, hcase⟩, hs3, hle3, hfl3, e1, e2, hr3⟩
  have key : ∀ (rec3 : Loop) (O3 : List OA) (o3 : Obj), Sat w3 hp3 ho3 [] (loopA Ps (w.heap.size + 1) rec3 O3 :: OsI') → w3.heap[w.heap.size + 1]? = some (.loop rec3) ∧ ∃ hoN, Sat (w3.putObj (w.heap.size + 1) o3) hp3 hoN Ps (OsI' ++ (O3 ++ rr)) ∧
      Base (after ⟨P, fn, N, none, w0, hp0, hf0, Q, fin, pan, out⟩ w.heap.size) (w3.putObj (w.heap.size + 1) o3) hp3 hoN := by
    intro rec3 O3 o3 hs3
    obtain ⟨gA, gI, mA, mI, dAI, ⟨hps3, gO, mO, mL, dLO3, sO3⟩, sI3⟩ := hs3.os
    have mLo : (Heap.one (w.heap.size + 1) (.loop rec3)).le ho3 := mL.tr mA
    have hl3 : w3.heap[w.heap.size + 1]? = some (.loop rec3) := hs3.ino _ _ (mLo _ _ (one_at _ _))
    have lR3 : hR.le ((hf0.add hR).add (Heap.one w.heap.size (.deferred (some [])))) := (Heap.le_add_right fR).tr (Heap.le_add_left _ _)
    have lF3 : (hf0.add (Heap.one w.heap.size (.deferred (some [])))).le ((hf0.add hR).add (Heap.one w.heap.size (.deferred (some [])))) := Heap.add_le ((Heap.le_add_left _ _).tr (Heap.le_add_left _ _)) (Heap.le_add_right dFD)
    have dL3 : ∀ h : Heap, h.dj ho3 → h (w.heap.size + 1) = none := fun h d => by
      rcases d (w.heap.size + 1) with q | q
      · exact q
      · rw [mLo _ _ (one_at _ _)] at q; cases q
    have oA : gO.le ho3 := mO.tr mA
    have dOI : gI.dj gO := Heap.dj_symm (Heap.dj_le dAI mO (Heap.le_refl _))
    have dRx : hR.dj ho3 := Heap.dj_le e2 lR3 (Heap.le_refl _)
    have dOR : gO.dj hR := Heap.dj_symm (Heap.dj_le dRx (Heap.le_refl _) oA)
    have dIR3 : gI.dj hR := Heap.dj_symm (Heap.dj_le dRx (Heap.le_refl _) mI)
    have dI3 : gI.dj (gO.add hR) := Heap.dj_symm (Heap.add_dj (Heap.dj_symm dOI) (Heap.dj_symm dIR3))
    have nO : gO (w.heap.size + 1) = none := dj_at dLO3 (one_at _ _)
    have nI : gI (w.heap.size + 1) = none := by
      rcases dAI (w.heap.size + 1) with q | q
      · rw [mL _ _ (one_at _ _)] at q; cases q
      · exact q
    refine ⟨hl3, gI.add (gO.add hR), ?_, ?_⟩
    · refine ⟨put_le hs3.inp (dL3 _ hs3.dj), Heap.add_le (put_le (mI.tr hs3.ino) nI) (Heap.add_le (put_le (oA.tr hs3.ino) nO) (put_le (lR3.tr hfl3) (dL3 _ dRx))), ?_, hps3, ?_⟩
      · exact Heap.dj_symm (Heap.add_dj (Heap.dj_symm (Heap.dj_le hs3.dj (Heap.le_refl _) mI)) (Heap.add_dj (Heap.dj_symm (Heap.dj_le hs3.dj (Heap.le_refl _) oA)) (Heap.dj_le e1 lR3 (Heap.le_refl _))))
      · exact Sep.app (Heap.le_add_left _ _) (Heap.le_add_right dI3) dI3 sI3 (Sep.app (Heap.le_add_left _ _) (Heap.le_add_right dOR) dOR sO3 (Sep.up hle3 sR))
    · have dF1 : (hf0.add (Heap.one w.heap.size (.deferred (some [])))).dj ho3 := Heap.dj_le e2 lF3 (Heap.le_refl _)
      refine ⟨hb'.hp0.tr hle3, put_le (lF3.tr hfl3) (dL3 _ dF1), Heap.dj_le e1 lF3 (Heap.le_refl _), ?_, ((hb'.rest.trans hr0).trans hr3).trans put_rest⟩
      refine Heap.dj_symm (Heap.add_dj (Heap.dj_symm (Heap.dj_le dF1 (Heap.le_refl _) mI)) (Heap.add_dj (Heap.dj_symm (Heap.dj_le dF1 (Heap.le_refl _) oA)) ?_))
      exact Heap.dj_symm (Heap.add_dj fR (djD _ lR))
  have hfit : Fits (after ⟨P, fn, N, none, w0, hp0, hf0, Q, fin, pan, out⟩ w.heap.size).N E { a with defers := { target := .collected w.heap.size, args := #[] } :: a.defers } := ⟨hf.size, by show _ :: a.defers = _ :: N.ds; rw [hf.dfs], hf.at_⟩
  rcases hcase with ⟨xs, hxs, rfl⟩ | ⟨xs, hxs, rfl⟩
  · obtain ⟨hl3, hoN, k1, k2⟩ := key rec (O xs) (.loop { rec with state := .exhausted, pending := none }) hs3
    refine ⟨_, _, run_endLoop (P := P) hl3 (by rw [← hrec]; simp), ?_⟩
    rw [show rec.pending = none from by rw [← hrec]]
    exact done w.heap.size xs (Heap.dj_symm (djD _ hfw)) hxs _ _ hp3 hoN hfit k1 k2
  · obtain ⟨hl3, hoN, k1, k2⟩ := key _ (Ox xs) (.loop { state := .exhausted, pending := some .ret, fn := fnid, tmps := a.tmps, params := #[t], assign, body, defers := w.heap.size }) hs3
    refine ⟨_, _, run_endLoop (P := P) hl3 (by simp), ?_⟩
    exact stop w.heap.size xs (Heap.dj_symm (djD _ hfw)) hxs _ _ hp3 hoN hfit k1 k2
/-- Marks of loops that are behind. -/
inductive EndM (C0 : Ctx) : Ctx → Prop
  | base : EndM C0 C0
  | mark {C : Ctx} {D : Nat} (h : EndM C0 C) (hd : C.hf.dj (Heap.one D (.deferred (some [])))) : EndM C0 (after C D)
theorem EndM.fin {C0 C : Ctx} (h : EndM C0 C) : C.fin = C0.fin ∧ C.P = C0.P ∧ C.fn = C0.fn := by
  induction h with
  | base => exact ⟨rfl, rfl, rfl⟩
  | mark h hd ih => exact ih
theorem leaves_marks {C0 : Ctx} (h0 : AtEnd C0) {E : Env} {Ps : List PA} {Os : List OA} {v : Value} (Ps' : List PA) (Os' : List OA) {r : List OA} (q : C0.Q v Ps' Os') (hP : Subs Ps Ps') (hO : Takes Os Os' r) {C : Ctx} (h : EndM C0 C) :
    (∀ (a : Act) (w : World) (hp ho : Heap), Fits C.N E a → Sat w hp ho Ps Os → (results C0.fn a.tmps).run C0.P w = .ok v w) → ∀ (a : Act) (w : World) (hp ho : Heap), Fits C.N E a → Sat w hp ho Ps Os → Base C w hp ho → LeavesInM Fence.wide 0 C0.P C0.fn a.tmps (endR C0.w0 C0.hp0 C0.hf C0.Q) a.defers .returning w := by
  induction h with
  | base =>
    intro hv a w hp ho hf hs hb
    have hd : a.defers = [] := hf.dfs.trans h0.2
    rw [hd]
    obtain ⟨h1, h2, a1, b, c1, d, e⟩ := Sep.takes hO hs.os
    exact ⟨v, hv a w hp ho hf hs, v, hp, ho, Ps', Os', rfl, q, ⟨hs.inp, hs.ino, hs.dj, (hs.ents hP.ents).ps, Sep.mono a1 d⟩, hb.hp0, hb.hf, hb.djp, hb.djo, hb.rest⟩
  | @mark C D h hd ih =>
    intro hv a w hp ho hf hs hb
    have ofF : C.hf.le (C.hf.add (Heap.one D (.deferred (some [])))) := Heap.le_add_left _ _
    have ofD : (Heap.one D (.deferred (some []))).le (C.hf.add (Heap.one D (.deferred (some [])))) := Heap.le_add_right hd
    have hDw : w.heap[D]? = some (.deferred (some [])) := hb.hf _ _ (ofD _ _ (one_at _ _))
    have nD : ∀ h : Heap, (C.hf.add (Heap.one D (.deferred (some [])))).dj h → h D = none := fun h d => dj_at (Heap.dj_le d ofD (Heap.le_refl _)) (one_at _ _)
    have sat2 : Sat (w.putObj D (.deferred none)) hp ho Ps Os := ⟨put_le hs.inp (nD _ hb.djp), put_le hs.ino (nD _ hb.djo), hs.dj, hs.ps, hs.os⟩
    have hds : a.defers = { target := .collected D, args := #[] } :: C.N.ds := hf.dfs
    have base2 : Base C (w.putObj D (.deferred none)) hp ho := ⟨hb.hp0, put_le (ofF.tr hb.hf) (dj_at (Heap.dj_symm hd) (one_at _ _)), Heap.dj_le hb.djp ofF (Heap.le_refl _), Heap.dj_le hb.djo ofF (Heap.le_refl _), hb.rest.trans put_rest⟩
    have h1 := ih (fun a w hp ho hf hs => hv { a with defers := { target := .collected D, args := #[] } :: C.N.ds } w hp ho ⟨hf.size, rfl, hf.at_⟩ hs) { a with defers := C.N.ds } _ hp ho ⟨hf.size, rfl, hf.at_⟩ sat2 base2
    rw [hds]
    exact ⟨by simp, .inl ⟨D, _, rfl, run_takeDeferred hDw, h1⟩⟩
theorem go_retN {C0 : Ctx} (h : EndM C0 C) (h0 : AtEnd C0) {v : Value} (Ps' : List PA) (Os' : List OA) {r : List OA} (hv : ∀ (a : Act) (w : World) (hp ho : Heap), Fits C.N E a → Sat w hp ho Ps Os → (results C.fn a.tmps).run C.P w = .ok v w)
    (q : C0.Q v Ps' Os') (hP : Subs Ps Ps') (hO : Takes Os Os' r) : Go C (.code .ret :: k) E Ps Os := fun a w hp ho hf hs hb =>
  wpIn_ret (by
    have := leaves_marks h0 Ps' Os' q hP hO h (fun a w hp ho hf hs => by have := hv a w hp ho hf hs; rw [h.fin.2.1, h.fin.2.2] at this; exact this) a w hp ho hf hs hb
    show den C.ro C.P C.fin k .ret a w
    rw [den_ret, h.fin.1, h0.1]
    exact this)
end
end Go.Proofs.Ytkhddfknpegpmaa.SL

