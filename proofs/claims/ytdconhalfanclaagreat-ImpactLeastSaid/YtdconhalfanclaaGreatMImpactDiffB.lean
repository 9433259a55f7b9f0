/- Engine, data and contracts: parts of the proof of ImpactDiff, put together (Cmp Compare D1 D2 SA D5 Rel Relb Relins Relput D6 Relp D7 Matchs Matcht Matchr Relq Refrel Refrelb Relr D8 D9 DA SF SG DC Safea Safeb Safec DE DB DF). -/
import Derived.Test.YtdconhalfanclaaGreatMImpactDiffA
import Derived.RangeFuncRecord
import Derived.MapKept
import Derived.Shelf.Small.Bits
import Derived.Ground.NamesProg
set_option linter.unusedVariables false
set_option linter.unusedSimpArgs false
set_option maxHeartbeats 2000000
set_option maxRecDepth 20000
namespace Go.Proofs.YtdconhalfanclaaGreat.SL
open Go
theorem isNaN_u32 (x : Int) :
    Spec Tryz.prog 144 #[.int .u32 x] [] [] (fun v Ps' Os' => v = .bool false ∧ Ps' = [] ∧ Os' = []) := by
 refine zSp _ Tryz.func144 Tryz.ntmps144 (fun _ _ _ => ?_)
 refine zT 11 rfl ⟨by simp, rfl, rfl⟩
theorem compare_u32 (x y : Int) :
    Spec Tryz.prog 117 #[.int .u32 x, .int .u32 y] [] [] (fun v Ps' Os' => v = .int .i64 (if x < y then -1 else if y < x then 1 else 0) ∧ Ps' = [] ∧ Os' = []) := by
 refine zSp _ Tryz.func117 Tryz.ntmps117 (fun _ _ _ => ?_)
 refine zC3 7 (isNaN_u32 _) ?_
 refine zC3 5 (isNaN_u32 _) ?_
 refine zDf 7 ?_
 refine zDf 6 ?_
 refine zD 8 ?_ ?_
 ·intro c1
  refine zE 4 [4] ?_
  refine zT 0 rfl ⟨by first | rw [if_pos (by omega)] | rw [if_neg (by omega), if_pos (by omega)] | rw [if_neg (by omega), if_neg (by omega)], rfl, rfl⟩
 intro c1
 refine zE 8 [19] ?_
 refine zD 0 ?_ ?_
 ·intro c2
  refine zT 4 rfl ⟨by first | rw [if_pos (by omega)] | rw [if_neg (by omega), if_pos (by omega)] | rw [if_neg (by omega), if_neg (by omega)], rfl, rfl⟩
 intro c2
 refine zT 5 rfl ⟨by first | rw [if_pos (by omega)] | rw [if_neg (by omega), if_pos (by omega)] | rw [if_neg (by omega), if_neg (by omega)], rfl, rfl⟩
theorem isNaN_i64 (x : Int) :
    Spec Tryz.prog 145 #[.int .i64 x] [] [] (fun v Ps' Os' => v = .bool false ∧ Ps' = [] ∧ Os' = []) := by
 refine zSp _ Tryz.func145 Tryz.ntmps145 (fun _ _ _ => ?_)
 refine zT 11 rfl ⟨by simp, rfl, rfl⟩
theorem compare_i64 (x y : Int) :
    Spec Tryz.prog 118 #[.int .i64 x, .int .i64 y] [] [] (fun v Ps' Os' => v = .int .i64 (if x < y then -1 else if y < x then 1 else 0) ∧ Ps' = [] ∧ Os' = []) := by
 refine zSp _ Tryz.func118 Tryz.ntmps118 (fun _ _ _ => ?_)
 refine zC3 7 (isNaN_i64 _) ?_
 refine zC3 5 (isNaN_i64 _) ?_
 refine zDf 7 ?_
 refine zDf 6 ?_
 refine zD 8 ?_ ?_
 ·intro c1
  refine zE 4 [4] ?_
  refine zT 0 rfl ⟨by first | rw [if_pos (by omega)] | rw [if_neg (by omega), if_pos (by omega)] | rw [if_neg (by omega), if_neg (by omega)], rfl, rfl⟩
 intro c1
 refine zE 8 [19] ?_
 refine zD 0 ?_ ?_
 ·intro c2
  refine zT 4 rfl ⟨by first | rw [if_pos (by omega)] | rw [if_neg (by omega), if_pos (by omega)] | rw [if_neg (by omega), if_neg (by omega)], rfl, rfl⟩
 intro c2
 refine zT 5 rfl ⟨by first | rw [if_pos (by omega)] | rw [if_neg (by omega), if_pos (by omega)] | rw [if_neg (by omega), if_neg (by omega)], rfl, rfl⟩
theorem cmpOr (A : Option Addr) (c : Nat) (xs : List Int) :
    Spec Tryz.prog 116 #[.slice A xs.length c] [sl (tInt .i64) A c xs] [] (fun v Ps' Os' => v = .int .i64 ((xs.find? (· ≠ 0)).getD 0) ∧ Ps' = [] ∧ Os' = []) := by
 refine zSp _ Tryz.func116 Tryz.ntmps116 (fun _ _ _ => ?_)
 refine zR 1 ?_
 refine go_len (xs := xs) zM (fun l0 m0 => ?_)
 refine zR 15 ?_
 refine zO (X := Nat) (fun k => [(8, .int .i64 (k : Int))]) [3, 6, 7] (fun _ => []) (fun k => k ≤ xs.length ∧ (xs.take k).find? (· ≠ 0) = none) (fun k => xs.length - k) 0 ⟨by omega, rfl⟩ ?_
 intro k ⟨hk, hz⟩
 refine zD' 5 ?_ ?_
 ·intro c1
  refine zT 6 rfl ⟨congrArg (Value.int .i64) (by first | exact (or_hit (by omega) hz c2).symm | exact (or_none (by omega) hz).symm), rfl, rfl⟩
 intro c1
 refine zR 4 ?_
 refine go_elem_int (xs := xs) zM (k) (List.getElem?_eq_getElem (by omega)) (fun b o hA => ?_); cases hA
 refine zI 1 ?_
 refine zL 0 ?_
 refine zN' 8 ?_ ?_
 ·intro c2
  refine zR 6 ?_
  refine zi 8 ?_
  refine zz (k + 1) ⟨by omega, or_next (by omega) hz c2⟩ (by omega)
 intro c2
 refine zE 5 [2] ?_
 refine zT 0 rfl ⟨congrArg (Value.int .i64) (by first | exact (or_hit (by omega) hz c2).symm | exact (or_none (by omega) hz).symm), rfl, rfl⟩
theorem slicesCompare (A : Option Addr) (a : List Int) (c : Nat) (B : Option Addr) (b : List Int) (d : Nat) :
    Spec Tryz.prog 119 #[.slice A a.length c, .slice B b.length d] [sl tU A c a, sl tU B d b] [] (fun v Ps' Os' => v = .int .i64 (cmpL a b) ∧ Ps' = [] ∧ Os' = []) := by
 refine zSp _ Tryz.func119 Tryz.ntmps119 (fun _ _ _ => ?_)
 refine zR 1 ?_
 refine go_len (xs := a) zM (fun l0 m0 => ?_)
 refine go_len (xs := b) zM (fun l1 m1 => ?_)
 refine zR 11 ?_
 refine zO (X := Nat) (fun k => [(11, .int .i64 (k : Int))]) [0, 1, 9, 10] (fun _ => []) (fun k => k ≤ a.length ∧ k ≤ b.length ∧ a.take k = b.take k) (fun k => a.length - k) 0 ⟨by omega, by omega, rfl⟩ ?_
 intro k ⟨hk, hk2, hz⟩
 refine zD' 5 ?_ ?_
 ·intro c1
  refine zD 10 ?_ ?_
  ·intro c4
   refine zT 4 rfl ⟨congrArg (Value.int .i64) (by rw [cmp_r2 hz (by omega) (by omega) (by omega), if_pos (by omega)]), rfl, rfl⟩
  intro c4
  refine zT 5 rfl ⟨congrArg (Value.int .i64) (by rw [cmp_r2 hz (by omega) (by omega) (by omega), if_neg (by omega)]), rfl, rfl⟩
 intro c1
 refine zR 4 ?_
 refine go_elem_int (xs := a) zM (k) (List.getElem?_eq_getElem (by omega)) (fun b1 o1 hA => ?_); cases hA
 refine zI 2 ?_
 refine zL 0 ?_
 refine zD 11 ?_ ?_
 ·intro c2
  refine zE 4 [4] ?_
  refine zT 0 rfl ⟨congrArg (Value.int .i64) (cmp_r0 hz (by omega) (by omega) (by omega)), rfl, rfl⟩
 intro c2
 refine zR 2 ?_
 refine go_elem_int (xs := b) zM (k) (List.getElem?_eq_getElem (by omega)) (fun b2 o2 hA => ?_); cases hA
 refine zI 3 ?_
 refine zL 0 ?_
 refine zE 2 [0, 1, 6, 7, 9, 10, 11] ?_
 refine zC3 4 (compare_u32 _ _) ?_
 refine zN 7 ?_ ?_
 ·intro c3
  refine zE 5 [4] ?_
  refine zT 0 rfl ⟨congrArg (Value.int .i64) (cmp_r1 hz (by omega) (by omega) c3), rfl, rfl⟩
 intro c3
 refine zR 6 ?_
 refine zi 11 ?_
 refine zz (k + 1) (⟨by omega, by omega, take_next (by omega) (by omega) hz (cmp_eq c3)⟩) (by omega)
theorem atomsCompare (p : Int) (A : Option Addr) (a : List Int) (c : Nat) (q : Int) (B : Option Addr) (b : List Int) (d : Nat) :
    Spec Tryz.prog 89 #[.agg #[.int .u32 p, .slice A a.length c], .agg #[.int .u32 q, .slice B b.length d]] [sl tU A c a, sl tU B d b] [] (fun v Ps' Os' => v = .int .i64 (cmpF p a q b) ∧ Ps' = [] ∧ Os' = []) := by
 refine zSp _ Tryz.func89 Tryz.ntmps89 (fun _ _ _ => ?_)
 refine zX 2 ?_
 intro b1
 refine zX 0 ?_
 intro b2
 refine zY 3 [1, 7, 16, 25, 37, 43, 5, 11, 20, 22, 29, 31, 41, 47, 12, 33, 48, 51, 54, 58] ?_
 refine zK 6 ?_
 refine zK 0 ?_
 refine zK 0 ?_
 refine zK 1 ?_
 refine zK 1 ?_
 refine zK 0 ?_
 refine go_call (compare_u32 _ _) rfl rfl (by rfl) rfl zM zM (fun _ v Ps' Os' hq => by obtain ⟨rfl, rfl, rfl⟩ := hq; exact satS zM zM) ?_
 rintro _ _ _ ⟨rfl, rfl, rfl⟩
 refine go_call (compare_i64 _ _) rfl rfl (by rfl) rfl zM zM (fun _ v Ps' Os' hq => by obtain ⟨rfl, rfl, rfl⟩ := hq; exact satS zM zM) ?_
 rintro _ _ _ ⟨rfl, rfl, rfl⟩
 refine zC3 0 (slicesCompare _ _ _ _ _ _) ?_
 refine zV 0 ?_
 intro b3
 refine go_lit_int (kk := .i64) [_, _, _] zM (by simp) ?_
 refine zC3 0 (cmpOr _ _ [_, _, _]) ?_
 refine zE 2 [4] ?_
 refine zT 0 rfl ⟨congrArg (Value.int .i64) (cmp_all p q a b), rfl, rfl⟩
theorem refCompare (p : Int) (A : Option Addr) (a : List Int) (c : Nat) (q : Int) (B : Option Addr) (b : List Int) (d : Nat) :
    Spec Tryz.prog 45 #[.agg #[.int .u32 p, .slice A a.length c], .agg #[.int .u32 q, .slice B b.length d]] [sl tU A c a, sl tU B d b] [] (fun v Ps' Os' => v = .int .i64 (cmpF p a q b) ∧ Ps' = [] ∧ Os' = []) := by
 refine zSp _ Tryz.func45 Tryz.ntmps45 (fun _ _ _ => ?_)
 refine zX 2 ?_
 intro b1
 refine zX 0 ?_
 intro b2
 refine zR 4 ?_
 refine zP (X := Bool) (fun x => [(26, .bool x)]) [2, 3] (fun x => x = decide (p < q ∨ (p = q ∧ a.length < b.length))) ?_ ?_
 ·skip
  refine zL 2 ?_
  refine zL 1 ?_
  refine zG 2 11 ?_ ?_
  ·intro g1
   (try simp only [dcs, ne_eq] at g1)
   refine zR 16 ?_
   refine go_back _ zA zM zM (by first | (rw [eq_comm, decide_eq_true_eq]; omega) | (rw [eq_comm, decide_eq_false_iff_not]; omega) | (rw [decide_eq_decide]; omega)) (by decide)
  intro g1
  (try simp only [dcs, ne_eq] at g1)
  refine zL 1 ?_
  refine zL 1 ?_
  refine zG' 2 17 ?_ ?_
  ·intro g2
   (try simp only [dcs, ne_eq] at g2)
   refine zR 10 ?_
   refine go_back _ zA zM zM (by first | (rw [eq_comm, decide_eq_true_eq]; omega) | (rw [eq_comm, decide_eq_false_iff_not]; omega) | (rw [decide_eq_decide]; omega)) (by decide)
  intro g2
  (try simp only [dcs, ne_eq] at g2)
  refine zL 1 ?_
  refine zL 2 ?_
  refine zR 5 ?_
  refine go_back _ zA zM zM (by first | (rw [eq_comm, decide_eq_true_eq]; omega) | (rw [eq_comm, decide_eq_false_iff_not]; omega) | (rw [decide_eq_decide]; omega)) (by decide)
 intro x hx
 subst hx
 refine zB 0 ?_ ?_
 ·intro c1
  (try simp only [dcs, ne_eq] at c1)
  refine zT 4 rfl ⟨congrArg (Value.int .i64) ((cmpF_lt c1).symm), rfl, rfl⟩
 intro c1
 (try simp only [dcs, ne_eq] at c1)
 refine zR 3 ?_
 refine zP (X := Bool) (fun x => [(40, .bool x)]) [2, 3] (fun x => x = decide (q < p ∨ b.length < a.length)) ?_ ?_
 ·skip
  refine zL 2 ?_
  refine zL 1 ?_
  refine zG 2 32 ?_ ?_
  ·intro g3
   (try simp only [dcs, ne_eq] at g3)
   refine zR 9 ?_
   refine go_back _ zA zM zM (by first | (rw [eq_comm, decide_eq_true_eq]; omega) | (rw [eq_comm, decide_eq_false_iff_not]; omega) | (rw [decide_eq_decide]; omega)) (by decide)
  intro g3
  (try simp only [dcs, ne_eq] at g3)
  refine zL 1 ?_
  refine zL 2 ?_
  refine zR 4 ?_
  refine go_back _ zA zM zM (by first | (rw [eq_comm, decide_eq_true_eq]; omega) | (rw [eq_comm, decide_eq_false_iff_not]; omega) | (rw [decide_eq_decide]; omega)) (by decide)
 intro x hx
 subst hx
 refine zB 0 ?_ ?_
 ·intro c2
  (try simp only [dcs, ne_eq] at c2)
  refine zT 4 rfl ⟨congrArg (Value.int .i64) ((cmpF_gt c1 c2).symm), rfl, rfl⟩
 intro c2
 (try simp only [dcs, ne_eq] at c2)
 refine zR 3 ?_
 obtain ⟨e1, e2, e3⟩ := cmpF_eq c1 c2
 refine go_len (xs := a) zM (fun l0 m0 => ?_)
 refine zR 4 ?_
 refine zO (X := Nat) (fun k => [(5, .int .i64 (k : Int))]) [2, 3] (fun _ => []) (fun k => k ≤ a.length ∧ a.take k = b.take k) (fun k => a.length - k) 0 ⟨by omega, rfl⟩ ?_
 intro k ⟨hk, hz⟩
 refine zL 5 ?_
 refine zD' 3 ?_ ?_
 ·intro c3
  refine zT 5 rfl ⟨congrArg (Value.int .i64) (by rw [e1, cmpL_all e3 (by omega) hz]), rfl, rfl⟩
 intro c3
 refine zR 5 ?_
 refine go_elem_int (xs := a) zM (k) (List.getElem?_eq_getElem (by omega)) (fun b3 o3 hA => ?_); cases hA
 refine go_elem_int (xs := b) zM (k) (List.getElem?_eq_getElem (by omega)) (fun b4 o4 hA => ?_); cases hA
 refine zY 0 [1, 7, 16, 22, 5, 10, 14, 20, 25, 29, 31] ?_
 refine zK 4 ?_
 refine zI 0 ?_
 refine zK 0 ?_
 refine zK 0 ?_
 refine zI 0 ?_
 refine zK 0 ?_
 refine zE 2 [2, 3, 5, 58] ?_
 refine zD 0 ?_ ?_
 ·intro c4
  refine zT 4 rfl ⟨congrArg (Value.int .i64) (by rw [e1]; exact ((cmpL_at k (by omega) (by omega) hz).1 c4).symm), rfl, rfl⟩
 intro c4
 refine zY 2 [1, 7, 16, 22, 5, 10, 14, 20, 25, 29, 31] ?_
 refine zK 4 ?_
 refine zI 0 ?_
 refine zK 0 ?_
 refine zK 0 ?_
 refine zI 0 ?_
 refine zK 0 ?_
 refine zD 2 ?_ ?_
 ·intro c5
  refine zE 4 [4] ?_
  refine zT 0 rfl ⟨congrArg (Value.int .i64) (by rw [e1]; exact ((cmpL_at k (by omega) (by omega) hz).2 c5).symm), rfl, rfl⟩
 intro c5
 refine zR 7 ?_
 refine zi 5 ?_
 refine zz (k + 1) (⟨by omega, take_next (by omega) (by omega) hz (by omega)⟩) (by omega)
theorem refSameFact (p : Int) (A : Option Addr) (a : List Int) (c : Nat) (q : Int) (B : Option Addr) (b : List Int) (d : Nat) :
    Spec Tryz.prog 16 #[.agg #[.int .u32 p, .slice A a.length c], .agg #[.int .u32 q, .slice B b.length d]] [sl tU A c a, sl tU B d b] [] (fun v Ps' Os' => v = .bool (decide (cmpF p a q b = 0)) ∧ Ps' = [] ∧ Os' = []) := by
 refine zSp _ Tryz.func16 Tryz.ntmps16 (fun _ _ _ => ?_)
 refine zX 2 ?_
 intro b1
 refine zX 0 ?_
 intro b2
 refine zL 4 ?_
 refine zL 0 ?_
 refine zC3 0 (refCompare _ _ _ _ _ _ _ _) ?_
 refine zT 3 rfl ⟨rfl, rfl, rfl⟩
end Go.Proofs.YtdconhalfanclaaGreat.SL
namespace Go.Proofs.YtdconhalfanclaaGreat.SL
def Fa.ok (f : Fa) : Prop := (0 ≤ f.p ∧ f.p < 4294967296) ∧ ∀ x ∈ f.a, 0 ≤ x ∧ x < 4294967296
def Tm.ok (x : Tm) : Prop := 0 ≤ x.n ∧ x.n < 4294967296
def Am.ok (f : Am) : Prop := (0 ≤ f.p ∧ f.p < 4294967296) ∧ ∀ x ∈ f.a, x.ok
def b4 (x : Int) : List Int := [IntKind.u8.wrap (x.fdiv (2 ^ Nat.min 24 IntKind.u32.bits)), IntKind.u8.wrap (x.fdiv (2 ^ Nat.min 16 IntKind.u32.bits)), IntKind.u8.wrap (x.fdiv (2 ^ Nat.min 8 IntKind.u32.bits)), IntKind.u8.wrap x]
def enc (a : List Int) : List Int := a.flatMap b4
theorem mem_take_next {α : Type} {l : List α} {k : Nat} (hk : k < l.length) {φ : α → Prop} (hz : ∀ x ∈ l.take k, φ x) (h : φ l[k]) : ∀ x ∈ l.take (k + 1), φ x := by
  rw [List.take_succ_eq_append_getElem hk]
  intro x hx
  rcases List.mem_append.1 hx with q | q
  · exact hz x q
  · simp at q; subst q; exact h
structure Sc where
  c : Bool
  k : Bool
  q : Fa
  v : Int
section
variable {C : Ctx} {k : List It} {E : Env} {Ps : List PA} {Os : List OA}
end
theorem cmpL_zero : ∀ {a b : List Int}, cmpL a b = 0 ↔ a = b
  | [], [] => by simp [cmpL]
  | [], _ :: _ => by simp [cmpL]
  | _ :: _, [] => by simp [cmpL]
  | x :: a, y :: b => by
    simp only [cmpL, List.cons.injEq]
    split
    · simp; omega
    · split
      · simp; omega
      · rw [cmpL_zero]; constructor
        · intro h; exact ⟨by omega, h⟩
        · exact fun h => h.2
theorem cmpF_zero {x q : Fa} : cmpF x.p x.a q.p q.a = 0 ↔ x = q := by
  obtain ⟨p, a⟩ := x
  obtain ⟨p', b⟩ := q
  simp only [Fa.mk.injEq]
  unfold cmpF
  split
  · simp; omega
  · split
    · simp; omega
    · split
      · rename_i h; simp; intro _ e; subst e; omega
      · split
        · rename_i h; simp; intro _ e; subst e; omega
        · rw [cmpL_zero]; constructor
          · intro h; exact ⟨by omega, h⟩
          · exact fun h => h.2
theorem put_le {w : World} {b : Nat} {o' : Obj} {h : Heap} (hl : h.le (hpOf w)) (hn : h b = none) : h.le (hpOf (w.putObj b o')) := fun x u e => by
  have hx : x ≠ b := fun q => by subst q; rw [hn] at e; cases e
  have := hl _ _ e
  simp only [hpOf, World.putObj] at this ⊢
  rw [Array.getElem?_setIfInBounds_ne (Ne.symm hx)]
  exact this
theorem put_one {w : World} {b : Nat} {o o' : Obj} (hb : w.heap[b]? = some o) : (Heap.one b o').le (hpOf (w.putObj b o')) := Heap.one_le (by
  have hlt : b < w.heap.size := (Array.getElem?_eq_some_iff.1 hb).1
  simp [hpOf, World.putObj, hlt])
theorem put_rest {w : World} {b : Nat} {o' : Obj} : Rest w (w.putObj b o') := ⟨rfl, rfl, rfl, Nat.le_refl _, by simp [World.putObj]⟩
theorem dj_one {h : Heap} {b : Nat} {o o' : Obj} (d : (Heap.one b o).dj h) : (Heap.one b o').dj h := fun x => by
  rcases d x with q | q
  · left
    unfold Heap.one at q ⊢
    split at q
    · cases q
    · rename_i hx; rw [if_neg hx]
  · exact .inr q
theorem dj_at {h h' : Heap} {b : Nat} {o : Obj} (d : h.dj h') (e : h b = some o) : h' b = none := by
  rcases d b with q | q
  · rw [e] at q; cases q
  · exact q
theorem one_at (b : Nat) (o : Obj) : Heap.one b o b = some o := by simp [Heap.one]
structure Yld (P : Program) (l : Nat) {α : Type} (enc : α → Value) (Px : List α → α → List PA) (R : List α → OA) : Prop where
  go : ∀ (pre : List α) (x : α) (w : World) (hp ho hf : Heap), Sat w hp ho (Px pre x) [R pre] → hf.le (hpOf w) → hf.dj hp → hf.dj ho →
    ∃ fn tmps assign body, (Instr.yield l #[enc x]).run P w = .ok (.round l fn tmps assign body) w ∧
      RoundIn Fence.wide 0 P l fn tmps assign body w (fun e w' => ∃ hp' ho', e = .returned (.bool true) ∧ Sat w' hp' ho' [] [R (pre ++ [x])] ∧ hp.le hp' ∧ hf.le (hpOf w') ∧ hf.dj hp' ∧ hf.dj ho' ∧ Rest w w')
section
variable {C : Ctx} {k : List It} {E : Env} {Ps : List PA} {Os : List OA}
variable {o : Oper} {ops : Array Oper} {S : World → Prop} {r : Pl} {f : Bool}
theorem go_skipY (hw : wants ops E o = some false) (hd : okDst C.N o.dst = true) (g : Go C (.ops ops S r :: k) (setE o.dst undef E) Ps Os) : Go C (.ops ops S (.yld o r) :: k) E Ps Os := fun a w hp ho hf hs hb => by
  show rwp _ _ _ _ _ _ _
  rw [rwp, if_neg (by rw [wants_eq hf hw]; simp)]
  exact g _ w hp ho (hf.put hd undef) hs hb
theorem go_yield {α : Type} {enc : α → Value} {Px : List α → α → List PA} {R : List α → OA} {l : Nat} (hy : Yld C.P l enc Px R) (pre : List α) (x : α) {fx ax : Operand} {tys : Array TypeId} {rr : List OA} (ho : o.op = .call ⟨.value fx, #[ax], tys⟩) (hw : wants ops E o = some true)
    (hfx : ev E fx = some (.func (.yield l) #[] #[])) (hax : ev E ax = some (enc x)) (hd : okDst C.N o.dst = true) (hP : Subs Ps (Px pre x)) (hO : Takes Os [R pre] rr)
    (g : Go C (.ops ops S r :: k) (setE o.dst (.bool true) E) Ps (R (pre ++ [x]) :: rr)) : Go C (.ops ops S (.yld o r) :: k) E Ps Os := fun a w hp ho' hf hs hb => by
  show rwp _ _ _ _ _ _ _
  rw [rwp, if_pos (wants_eq hf hw)]
  obtain ⟨h1, h2, a1, b1, c1, d1, e1⟩ := Sep.takes hO hs.os
  obtain ⟨fn, tmps, assign, body, hrun, hround⟩ := hy.go pre x w hp h1 (C.hf.add h2) ⟨hs.inp, a1.tr hs.ino, Heap.dj_le hs.dj (Heap.le_refl _) a1, (hs.ents hP.ents).ps, d1⟩ (Heap.add_le hb.hf (b1.tr hs.ino))
    (Heap.add_dj hb.djp (Heap.dj_symm (Heap.dj_le hs.dj (Heap.le_refl _) b1))) (Heap.add_dj (Heap.dj_le hb.djo (Heap.le_refl _) a1) (Heap.dj_symm c1))
  have hex : (execOp a.eval o).run C.P w = .ok (.round l fn tmps assign body) w := by
    simp [execOp, ho, resolve, hf.ev hfx, hf.ev hax, Deferred.ofValue, invoke, hrun]
  refine ⟨fun _ _ => trivial, ?_⟩
  rw [show Fence.wide.round = none from rfl, Oper.semAt_none, hex, Oper.uponIn_round]
  refine ⟨fun h => by simp [Fence.wide] at h, hround.mono ?_⟩
  rintro e w' ⟨hp', ho2, rfl, hs', hle, hfl, djp, djo, hrest⟩
  have dfo : C.hf.dj h2 := Heap.dj_le hb.djo (Heap.le_refl _) b1
  have l2 : h2.le (C.hf.add h2) := Heap.le_add_right dfo
  have dA : ho2.dj h2 := Heap.dj_symm (Heap.dj_le djo l2 (Heap.le_refl _))
  have dB : hp'.dj h2 := Heap.dj_symm (Heap.dj_le djp l2 (Heap.le_refl _))
  have sat : Sat w' hp' (ho2.add h2) Ps ([R (pre ++ [x])] ++ rr) := ⟨hs'.inp, Heap.add_le hs'.ino (l2.tr hfl), Heap.dj_symm (Heap.add_dj (Heap.dj_symm hs'.dj) (Heap.dj_symm dB)),
    fun p hp0 => p.up hle (hs.ps p hp0), Sep.app (Heap.le_add_left _ _) (Heap.le_add_right dA) dA hs'.os (Sep.up hle e1)⟩
  have base : Base C w' hp' (ho2.add h2) := ⟨hb.hp0.tr hle, (Heap.le_add_left _ _).tr hfl, Heap.dj_le djp (Heap.le_add_left _ _) (Heap.le_refl _),
    Heap.dj_symm (Heap.add_dj (Heap.dj_symm (Heap.dj_le djo (Heap.le_add_left _ _) (Heap.le_refl _))) (Heap.dj_symm dfo)), hb.rest.trans hrest⟩
  exact g _ w' hp' _ (hf.put hd (.bool true)) sat base
end
def rc (P : Program) (n l : Nat) (w0 : World) (hp0 hf : Heap) : Ctx := ⟨P, default, ⟨n, []⟩, some l, w0, hp0, hf, fun _ _ _ => False, fun _ _ _ => False, fun _ _ _ h => h, fun _ _ h => h⟩
def loopA (Ps : List PA) (l : Nat) (rec : Loop) (Os : List OA) : OA :=
  ⟨fun hp ho => (∀ p, p ∈ Ps → p.p hp) ∧ ∃ h2, h2.le ho ∧ (Heap.one l (.loop rec)).le ho ∧ (Heap.one l (.loop rec)).dj h2 ∧ Sep hp Os h2,
    fun hl ⟨a, h2, b, c, d, e⟩ => ⟨fun p hp => p.up hl (a p hp), h2, b, c, d, Sep.up hl e⟩⟩
def after (C : Ctx) (D : Nat) : Ctx := { C with N := ⟨C.N.n, { target := .collected D, args := #[] } :: C.N.ds⟩, hf := C.hf.add (Heap.one D (.deferred (some []))) }
section
variable {C : Ctx} {k : List It} {E : Env} {Ps : List PA} {Os : List OA}
theorem rounds {P : Program} {n l t : Nat} {α : Type} {enc : α → Value} {Px : List α → α → List PA} {assign body : Code} {tmps : Array Value} {fn : FuncId} {D : Nat} (O : List α → List OA) (hN : tmps.size = n) (ht : Nat.blt t n = true) (hE : ∀ d v, look E d = some v → tmps[d]? = some v)
    {X : Type} (chg : X → Env) (rest : Env) (O1 : List α → α → X → List OA) (J : List α → α → X → Prop)
    (ha : ∀ pre x w0 hp0 hf0, Go (rc P n l w0 hp0 hf0) [.code assign, .back (Bk (rc P n l w0 hp0 hf0) chg rest (fun _ => Px pre x ++ Ps) (O1 pre x) (J pre x) (fun _ => 0) 1)] ((t, enc x) :: E) (Px pre x ++ Ps) (O pre))
    (hb : ∀ pre x y, J pre x y → ∀ w0 hp0 hf0, Go (rc P n l w0 hp0 hf0) [.code body, .back (Bk (rc P n l w0 hp0 hf0) (fun _ : Unit => []) [] (fun _ => Ps) (fun _ => O (pre ++ [x])) (fun _ => True) (fun _ => 0) 1)] (chg y ++ rest) (Px pre x ++ Ps) (O1 pre x y)) :
    Yld P l enc Px (fun pre => loopA Ps l { state := .ready, pending := none, fn, tmps, params := #[t], assign, body, defers := D } (O pre)) := ⟨fun pre x w hp ho hf hs hfw d1 d2 => by
  generalize hrec : ({ state := .ready, pending := none, fn, tmps, params := #[t], assign, body, defers := D } : Loop) = rec at *
  obtain ⟨g1, _, la, _, _, ⟨hps, h2, lb, lr, dr, sO⟩, _⟩ := hs.os
  have lro : (Heap.one l (.loop rec)).le ho := lr.tr la
  have hl : w.heap[l]? = some (.loop rec) := hs.ino _ _ (lro _ _ (one_at _ _))
  have hyr := run_yield (P := P) (args := #[enc x]) hl (by rw [← hrec]; rfl)
  refine ⟨_, _, _, _, hyr, ?_⟩
  have dfr : hf.dj (Heap.one l (.loop rec)) := Heap.dj_le d2 (Heap.le_refl _) lro
  have dpr : hp.dj (Heap.one l (.loop rec)) := Heap.dj_le hs.dj (Heap.le_refl _) lro
  have lO : h2.le ho := lb.tr la
  have fl : hf l = none := by
    rcases dfr l with q | q
    · exact q
    · rw [one_at] at q; cases q
  refine roundIn_of_wpIn (F := Fence.wide) (n := 0) trivial ?_
  have hfit : Fits ⟨n, []⟩ ((t, enc x) :: E) { tmps := (rec.params.zip #[enc x]).foldl (fun tmps (t, a) => tmps.setIfInBounds t a) rec.tmps, defers := [] } := by
    have hz : (rec.params.zip #[enc x]).foldl (fun tmps (t, a) => tmps.setIfInBounds t a) rec.tmps = tmps.setIfInBounds t (enc x) := by rw [← hrec]; simp
    rw [hz]
    refine ⟨by simp [hN], rfl, fun d v e => ?_⟩
    simp only [look] at e
    have htl : t < tmps.size := by rw [hN]; exact Nat.le_of_ble_eq_true ht
    show (tmps.setIfInBounds t (enc x))[d]? = some v
    cases hbq : Nat.beq t d with
    | true =>
      rw [hbq] at e
      simp at e
      subst e
      rw [← Nat.eq_of_beq_eq_true hbq]
      simp [htl]
    | false =>
      rw [hbq] at e
      have hne : t ≠ d := fun q => by subst q; rw [Nat.beq_refl] at hbq; cases hbq
      rw [Array.getElem?_setIfInBounds_ne hne]
      exact hE d v e
  have hpx : ∀ p, p ∈ Px pre x ++ Ps → p.p hp := fun p hm => by
    rcases List.mem_append.1 hm with q | q
    · exact hs.ps p q
    · exact hps p q
  have sat1 : Sat w hp h2 (Px pre x ++ Ps) (O pre) := ⟨hs.inp, lO.tr hs.ino, Heap.dj_le hs.dj (Heap.le_refl _) lO, hpx, sO⟩
  have hfr : (hf.add (Heap.one l (.loop rec))).le (hpOf w) := Heap.add_le hfw (lro.tr hs.ino)
  have base1 : Base (rc P n l w hp (hf.add (Heap.one l (.loop rec)))) w hp h2 := ⟨Heap.le_refl _, hfr, Heap.add_dj d1 (Heap.dj_symm dpr), Heap.add_dj (Heap.dj_le d2 (Heap.le_refl _) lO) dr, .refl _⟩
  have step1 := ha pre x w hp (hf.add (Heap.one l (.loop rec))) _ w hp h2 hfit sat1 base1
  rw [show rec.assign = assign from by rw [← hrec], show rec.body = body from by rw [← hrec]]
  refine wpIn_mono (show assign.wpIn (Fence.wide.inRound l) 0 P _ _ w from step1) fun e a1 w1 q => ?_
  cases e with
  | normal =>
    obtain ⟨y, hp1, ho1, f1, s1, b1, j1, _⟩ := q
    have hl1 : w1.heap[l]? = some (.loop rec) := b1.hf _ _ (Heap.le_add_right dfr _ _ (one_at _ _))
    refine ⟨_, run_beginRound hl1 (by rw [← hrec]), ?_⟩
    have r1 : (Heap.one l (.loop rec)).dj hp1 := Heap.dj_le b1.djp (Heap.le_add_right dfr) (Heap.le_refl _)
    have r2 : (Heap.one l (.loop rec)).dj ho1 := Heap.dj_le b1.djo (Heap.le_add_right dfr) (Heap.le_refl _)
    have r3 : hf.dj hp1 := Heap.dj_le b1.djp (Heap.le_add_left _ _) (Heap.le_refl _)
    have r4 : hf.dj ho1 := Heap.dj_le b1.djo (Heap.le_add_left _ _) (Heap.le_refl _)
    have dfb : ∀ o', hf.dj (Heap.one l o') := fun o' => Heap.dj_symm (dj_one (Heap.dj_symm dfr))
    have step2 := hb pre x y j1 (w1.putObj l (.loop { rec with state := .busy })) hp1 (hf.add (Heap.one l (.loop { rec with state := .busy }))) a1 _ hp1 ho1 f1
      ⟨put_le s1.inp (dj_at r1 (one_at _ _)), put_le s1.ino (dj_at r2 (one_at _ _)), s1.dj, s1.ps, s1.os⟩
      ⟨Heap.le_refl _, Heap.add_le (put_le ((Heap.le_add_left _ _).tr b1.hf) fl) (put_one hl1), Heap.add_dj r3 (dj_one r1), Heap.add_dj r4 (dj_one r2), .refl _⟩
    refine wpIn_mono (show body.wpIn (Fence.wide.inRound l) 0 P _ _ _ from step2) fun e2 a2 w3 q2 => ?_
    cases e2 with
    | normal =>
      obtain ⟨_, hp3, ho3, f3, s3, b3, _, _⟩ := q2
      have hl3 : w3.heap[l]? = some (.loop { rec with state := .busy }) := b3.hf _ _ (Heap.le_add_right (dfb _) _ _ (one_at _ _))
      have he := run_endRound (P := P) none hl3
      have hrr : ({ { rec with state := LoopState.busy } with state := if (none : Option Code).isNone then LoopState.ready else LoopState.done, pending := none } : Loop) = rec := by rw [← hrec]; rfl
      rw [hrr] at he
      refine ⟨_, _, he, ?_⟩
      have t1 : (Heap.one l (.loop { rec with state := .busy })).dj hp3 := Heap.dj_le b3.djp (Heap.le_add_right (dfb _)) (Heap.le_refl _)
      have t2 : (Heap.one l (.loop { rec with state := .busy })).dj ho3 := Heap.dj_le b3.djo (Heap.le_add_right (dfb _)) (Heap.le_refl _)
      have t3 : hf.dj hp3 := Heap.dj_le b3.djp (Heap.le_add_left _ _) (Heap.le_refl _)
      have t4 : hf.dj ho3 := Heap.dj_le b3.djo (Heap.le_add_left _ _) (Heap.le_refl _)
      have dN : (Heap.one l (.loop rec)).dj ho3 := dj_one t2
      refine ⟨hp3, (Heap.one l (.loop rec)).add ho3, rfl, ⟨put_le s3.inp (dj_at t1 (one_at _ _)), Heap.add_le (put_one hl3) (put_le s3.ino (dj_at t2 (one_at _ _))), Heap.dj_symm (Heap.add_dj (dj_one t1) (Heap.dj_symm s3.dj)), (fun _ h => nomatch h),
          sep_one ⟨s3.ps, ho3, Heap.le_add_right dN, Heap.le_add_left _ _, dN, s3.os⟩⟩, b1.hp0.tr b3.hp0, put_le ((Heap.le_add_left _ _).tr b3.hf) fl, t3, Heap.dj_symm (Heap.add_dj (Heap.dj_symm (dfb _)) (Heap.dj_symm t4)),
          (b1.rest.trans put_rest).trans (b3.rest.trans put_rest)⟩
    | exit i => exact q2.elim
    | goto i => exact q2.elim
    | ret => exact q2.elim
    | panic c => exact q2.elim
    | outgrown => exact q2.elim
  | exit i => exact q.elim
  | goto i => exact q.elim
  | ret => exact q.elim
  | panic c => exact q.elim
  | outgrown => exact q.elim⟩
theorem go_range {α : Type} {enc : α → Value} {Px : List α → α → List PA} {g : Operand} {t : Nat} {assign body : Code} {gf : FuncId} {first cap : Array Value} (hro : C.ro = none) (hg : ev E g = some (.func (.func gf) first cap)) (ht : Nat.blt t C.N.n = true)
    (O : List α → List OA) (OsI OsI' : List OA) {r1 rr : List OA} (hO1 : Takes Os OsI r1) (hO2 : Takes r1 (O []) rr) (PsI : List PA) (hP : Subs Ps PsI) (Sx : List α → Prop)
    (hseq : ∀ (l : Nat) (R : List α → OA), Yld C.P l enc Px R → Spec C.P gf (first ++ #[.func (.yield l) #[] #[]] ++ cap) PsI (R [] :: OsI) (fun v Ps' Os' => ∃ xs, Sx xs ∧ Ps' = [] ∧ Os' = R xs :: OsI'))
    {X : Type} (chg : X → Env) (rest : Env) (O1 : List α → α → X → List OA) (J : List α → α → X → Prop)
    (ha : ∀ l pre x w0 hp0 hf0, Go (rc C.P C.N.n l w0 hp0 hf0) [.code assign, .back (Bk (rc C.P C.N.n l w0 hp0 hf0) chg rest (fun _ => Px pre x ++ Ps) (O1 pre x) (J pre x) (fun _ => 0) 1)] ((t, enc x) :: E) (Px pre x ++ Ps) (O pre))
    (hb : ∀ l pre x y, J pre x y → ∀ w0 hp0 hf0, Go (rc C.P C.N.n l w0 hp0 hf0) [.code body, .back (Bk (rc C.P C.N.n l w0 hp0 hf0) (fun _ : Unit => []) [] (fun _ => Ps) (fun _ => O (pre ++ [x])) (fun _ => True) (fun _ => 0) 1)] (chg y ++ rest) (Px pre x ++ Ps) (O1 pre x y))
    (done : ∀ D xs, C.hf.dj (Heap.one D (.deferred (some []))) → Sx xs → Go (after C D) k E Ps (OsI' ++ (O xs ++ rr))) : Go C (.code (.rangeFunc g #[t] assign body) :: k) E Ps Os := by
  obtain ⟨P, fn, N, ro, w0, hp0, hf0, Q, fin, pan, out⟩ := C
  cases hro
  intro a w hp ho hf hs hb'
  obtain ⟨hI, hr1, aI, ar1, dI, sI, sr1⟩ := Sep.takes hO1 hs.os
  obtain ⟨hO, hR, aO, aR, dO, sO, sR⟩ := Sep.takes hO2 sr1
  show (Code.rangeFunc g #[t] assign body).wpIn Fence.wide 0 P (den none P fin k) a w
  refine wpIn_rangeFunc fun fnid _ => ?_
  generalize hrec : ({ state := .ready, pending := none, fn := fnid, tmps := a.tmps, params := #[t], assign, body, defers := w.heap.size } : Loop) = rec
  have hY := rounds (Ps := Ps) (E := E) (Px := Px) (P := P) (n := N.n) (l := w.heap.size + 1) (t := t) (enc := enc) (assign := assign) (body := body) (tmps := a.tmps) (fn := fnid) (D := w.heap.size) O hf.size ht hf.at_ chg rest O1 J (ha _) (hb _)
  rw [hrec] at hY
  have hsp := hseq (w.heap.size + 1) _ hY
  obtain ⟨fd, q1, q2, q3⟩ := hsp.fn
  have hres : (resolve a.eval (rangeCall g (w.heap.size + 1)) 0).run P ((w.alloc (.deferred (some []))).alloc (.loop rec)) = .ok { target := .fn (.func gf) cap, args := first ++ #[.func (.yield (w.heap.size + 1)) #[] #[]] } ((w.alloc (.deferred (some []))).alloc (.loop rec)) := by
    have hg' : a.eval g = .func (.func gf) first cap := hf.ev hg
    show (Deferred.ofValue (a.eval g) (#[Operand.const (.func (.yield (w.heap.size + 1)) #[] #[])].map a.eval)).run P _ = _
    rw [hg']
    simp [Deferred.ofValue, Act.eval]
  have hinv : (invoke (.fn (.func gf) cap) (first ++ #[.func (.yield (w.heap.size + 1)) #[] #[]])).run P ((w.alloc (.deferred (some []))).alloc (.loop rec)) = .ok (.enter gf (first ++ #[.func (.yield (w.heap.size + 1)) #[] #[]] ++ cap)) ((w.alloc (.deferred (some []))).alloc (.loop rec)) := by
    simp only [invoke, callFunc, program, bind, Sem.bind, Sem.run, q1, q2, q3]
    simp only [Bool.false_eq_true, if_false]
    rfl
  refine ⟨_, _, _, _, _, gf, _, _, by have := run_enterLoop_outer (P := P) (w := w) fnid a.tmps #[t] assign body; rw [hrec] at this; exact this, hres, fun _ _ => trivial, hinv, fun h => by simp [Fence.wide] at h, ?_⟩
  have hwsz : ((w.alloc (.deferred (some []))).alloc (.loop rec)).heap = (w.heap.push (.deferred (some []))).push (.loop rec) := rfl
  have fresh : ∀ h : Heap, h.le (hpOf w) → ∀ b, w.heap.size ≤ b → h b = none := fun h hl b hb => by
    cases e : h b with
    | none => rfl
    | some u => have := hl _ _ e; simp [hpOf] at this; have := (Array.getElem?_eq_some_iff.1 this).1; omega
  have grow : (hpOf w).le (hpOf ((w.alloc (.deferred (some []))).alloc (.loop rec))) := fun b u e => by
    have hlt : b < w.heap.size := (Array.getElem?_eq_some_iff.1 e).1
    simp only [hpOf, hwsz] at e ⊢
    rw [Array.getElem?_push_lt (by simp; omega)]
    simp only [Option.some.injEq]
    rw [Array.getElem_push_lt hlt]
    exact (Array.getElem?_eq_some_iff.1 e).2
  have hD : ((w.alloc (.deferred (some []))).alloc (.loop rec)).heap[w.heap.size]? = some (.deferred (some [])) := by
    rw [hwsz, Array.getElem?_push, Array.getElem?_push]; simp
  have hL : ((w.alloc (.deferred (some []))).alloc (.loop rec)).heap[w.heap.size + 1]? = some (.loop rec) := by
    rw [hwsz, Array.getElem?_push, if_pos (by simp)]
  have oneD : (Heap.one w.heap.size (.deferred (some []))).le (hpOf ((w.alloc (.deferred (some []))).alloc (.loop rec))) := Heap.one_le hD
  have oneL : (Heap.one (w.heap.size + 1) (.loop rec)).le (hpOf ((w.alloc (.deferred (some []))).alloc (.loop rec))) := Heap.one_le hL
  have djD : ∀ h : Heap, h.le (hpOf w) → (Heap.one w.heap.size (.deferred (some []))).dj h := fun h hl => Heap.one_dj (fresh h hl _ (Nat.le_refl _))
  have djL : ∀ h : Heap, h.le (hpOf w) → ∀ o', (Heap.one (w.heap.size + 1) o').dj h := fun h hl o' => Heap.one_dj (fresh h hl _ (by omega))
  have djDL : ∀ o', (Heap.one w.heap.size (.deferred (some []))).dj (Heap.one (w.heap.size + 1) o') := fun o' => Heap.one_dj (by simp [Heap.one])
  have hr0 : Rest w ((w.alloc (.deferred (some []))).alloc (.loop rec)) := ⟨rfl, rfl, rfl, Nat.le_refl _, by rw [hwsz]; simp; omega⟩
  have lI : hI.le (hpOf w) := aI.tr hs.ino
  have lr1 : hr1.le (hpOf w) := ar1.tr hs.ino
  have lO : hO.le (hpOf w) := aO.tr lr1
  have lR : hR.le (hpOf w) := aR.tr lr1
  -- the owned of the call: the record, the body's, the iterator's
  have dLO : (Heap.one (w.heap.size + 1) (.loop rec)).dj hO := djL _ lO _
  have dIO : hI.dj hO := Heap.dj_le dI (Heap.le_refl _) aO
  have dIR : hI.dj hR := Heap.dj_le dI (Heap.le_refl _) aR
  have dX : ((Heap.one (w.heap.size + 1) (.loop rec)).add hO).dj hI := Heap.add_dj (djL _ lI _) (Heap.dj_symm dIO)
  have dpO : hp.dj hO := Heap.dj_le hs.dj (Heap.le_refl _) (aO.tr ar1)
  have dpI : hp.dj hI := Heap.dj_le hs.dj (Heap.le_refl _) aI
  have dpR : hp.dj hR := Heap.dj_le hs.dj (Heap.le_refl _) (aR.tr ar1)
  have satI : Sat ((w.alloc (.deferred (some []))).alloc (.loop rec)) hp (((Heap.one (w.heap.size + 1) (.loop rec)).add hO).add hI) PsI (loopA Ps (w.heap.size + 1) rec (O []) :: OsI) :=
    ⟨hs.inp.tr grow, Heap.add_le (Heap.add_le oneL (lO.tr grow)) (lI.tr grow), Heap.dj_symm (Heap.add_dj (Heap.add_dj (djL _ hs.inp _) (Heap.dj_symm dpO)) (Heap.dj_symm dpI)), (hs.ents hP.ents).ps,
      (Heap.one (w.heap.size + 1) (.loop rec)).add hO, hI, Heap.le_add_left _ _, Heap.le_add_right dX, dX, ⟨hs.ps, hO, Heap.le_add_right dLO, Heap.le_add_left _ _, dLO, sO⟩, sI⟩
  have fI : hf0.dj hI := Heap.dj_le hb'.djo (Heap.le_refl _) aI
  have fO : hf0.dj hO := Heap.dj_le hb'.djo (Heap.le_refl _) (aO.tr ar1)
  have fR : hf0.dj hR := Heap.dj_le hb'.djo (Heap.le_refl _) (aR.tr ar1)
  have hfw : hf0.le (hpOf w) := hb'.hf
  -- the frame of the call
  have dFD : (hf0.add hR).dj (Heap.one w.heap.size (.deferred (some []))) := Heap.dj_symm (Heap.dj_symm (Heap.add_dj (Heap.dj_symm (djD _ hfw)) (Heap.dj_symm (djD _ lR))))
  have frame : ((hf0.add hR).add (Heap.one w.heap.size (.deferred (some [])))).le (hpOf ((w.alloc (.deferred (some []))).alloc (.loop rec))) := Heap.add_le (Heap.add_le (hfw.tr grow) (lR.tr grow)) oneD
  have fdp : ((hf0.add hR).add (Heap.one w.heap.size (.deferred (some [])))).dj hp := Heap.add_dj (Heap.add_dj hb'.djp (Heap.dj_symm dpR)) (djD _ hs.inp)
  have fdo : ((hf0.add hR).add (Heap.one w.heap.size (.deferred (some [])))).dj (((Heap.one (w.heap.size + 1) (.loop rec)).add hO).add hI) :=
    Heap.dj_symm (Heap.add_dj (Heap.add_dj (Heap.dj_symm (Heap.add_dj (Heap.add_dj (Heap.dj_symm (djL _ hfw _)) (Heap.dj_symm (djL _ lR _))) (djDL _))) (Heap.dj_symm (Heap.add_dj (Heap.add_dj fO (Heap.dj_symm dO)) (djD _ lO)))) (Heap.dj_symm (Heap.add_dj (Heap.add_dj fI (Heap.dj_symm dIR)) (djD _ lI))))
  refine (callsIn_wide.2 (hsp.calls _ hp _ _ satI frame fdp fdo)).mono ?_
  rintro e w3 ⟨v, hp3, ho3, Ps3, Os3, rfl, ⟨xs, hxs, rfl, rfl⟩, hs3, hle3, hfl3, e1, e2, hr3⟩
  obtain ⟨gA, gI, mA, mI, dAI, ⟨hps3, gO, mO, mL, dLO3, sO3⟩, sI3⟩ := hs3.os
  have mLo : (Heap.one (w.heap.size + 1) (.loop rec)).le ho3 := mL.tr mA
  have hl3 : w3.heap[w.heap.size + 1]? = some (.loop rec) := hs3.ino _ _ (mLo _ _ (one_at _ _))
  have hend := run_endLoop (P := P) hl3 (by rw [← hrec]; simp)
  refine ⟨_, _, hend, ?_⟩
  rw [show rec.pending = none from by rw [← hrec]]
  have lR3 : hR.le ((hf0.add hR).add (Heap.one w.heap.size (.deferred (some [])))) := (Heap.le_add_right fR).tr (Heap.le_add_left _ _)
  have lF3 : (hf0.add (Heap.one w.heap.size (.deferred (some [])))).le ((hf0.add hR).add (Heap.one w.heap.size (.deferred (some [])))) := Heap.add_le ((Heap.le_add_left _ _).tr (Heap.le_add_left _ _)) (Heap.le_add_right dFD)
  have dL3 : ∀ h : Heap, h.dj ho3 → h (w.heap.size + 1) = none := fun h d => by
    rcases d (w.heap.size + 1) with q | q
    · exact q
    · rw [mLo _ _ (one_at _ _)] at q; cases q
  have oA : gO.le ho3 := mO.tr mA
  have dOI : gI.dj gO := Heap.dj_symm (Heap.dj_le dAI mO (Heap.le_refl _))
  have dRx : hR.dj ho3 := Heap.dj_le e2 lR3 (Heap.le_refl _)
  have dOR : gO.dj hR := Heap.dj_symm (Heap.dj_le dRx (Heap.le_refl _) oA)
  have dIR3 : gI.dj hR := Heap.dj_symm (Heap.dj_le dRx (Heap.le_refl _) mI)
  have dI3 : gI.dj (gO.add hR) := Heap.dj_symm (Heap.add_dj (Heap.dj_symm dOI) (Heap.dj_symm dIR3))
  have nO : gO (w.heap.size + 1) = none := dj_at dLO3 (one_at _ _)
  have nI : gI (w.heap.size + 1) = none := by
    rcases dAI (w.heap.size + 1) with q | q
    · rw [mL _ _ (one_at _ _)] at q; cases q
    · exact q
  refine done w.heap.size xs (Heap.dj_symm (djD _ hfw)) hxs { a with defers := { target := .collected w.heap.size, args := #[] } :: a.defers } (w3.putObj (w.heap.size + 1) _) hp3 (gI.add (gO.add hR)) ⟨hf.size, by show _ :: a.defers = _ :: N.ds; rw [hf.dfs], hf.at_⟩ ?_ ?_
  · refine ⟨put_le hs3.inp (dL3 _ hs3.dj), Heap.add_le (put_le (mI.tr hs3.ino) nI) (Heap.add_le (put_le (oA.tr hs3.ino) nO) (put_le (lR3.tr hfl3) (dL3 _ dRx))), ?_, hps3, ?_⟩
    · exact Heap.dj_symm (Heap.add_dj (Heap.dj_symm (Heap.dj_le hs3.dj (Heap.le_refl _) mI)) (Heap.add_dj (Heap.dj_symm (Heap.dj_le hs3.dj (Heap.le_refl _) oA)) (Heap.dj_le e1 lR3 (Heap.le_refl _))))
    · exact Sep.app (Heap.le_add_left _ _) (Heap.le_add_right dI3) dI3 sI3 (Sep.app (Heap.le_add_left _ _) (Heap.le_add_right dOR) dOR sO3 (Sep.up hle3 sR))
  · have dF1 : (hf0.add (Heap.one w.heap.size (.deferred (some [])))).dj ho3 := Heap.dj_le e2 lF3 (Heap.le_refl _)
    refine ⟨hb'.hp0.tr hle3, put_le (lF3.tr hfl3) (dL3 _ dF1), Heap.dj_le e1 lF3 (Heap.le_refl _), ?_, ((hb'.rest.trans hr0).trans hr3).trans put_rest⟩
    refine Heap.dj_symm (Heap.add_dj (Heap.dj_symm (Heap.dj_le dF1 (Heap.le_refl _) mI)) (Heap.add_dj (Heap.dj_symm (Heap.dj_le dF1 (Heap.le_refl _) oA)) ?_))
    exact Heap.dj_symm (Heap.add_dj fR (djD _ lR))
theorem go_endM {D : Nat} {hf0 : Heap} {fin : Ctx} (hC : C = after fin D) (h0 : AtEnd fin) {v : Value} (Ps' : List PA) (Os' : List OA) {r : List OA} (hv : ∀ (a : Act) (w : World) (hp ho : Heap), Fits C.N E a → Sat w hp ho Ps Os → (results C.fn a.tmps).run C.P w = .ok v w)
    (q : C.Q v Ps' Os') (hP : Subs Ps Ps') (hO : Takes Os Os' r) {e : Exit} (he : e = .ret ∨ e = .normal) {a : Act} {w : World} {hp ho : Heap} (hf : Fits C.N E a) (hs : Sat w hp ho Ps Os) (hb : Base C w hp ho) (hd : fin.hf.dj (Heap.one D (.deferred (some [])))) :
    C.fin e a w := by
  subst hC
  have ofF : fin.hf.le (fin.hf.add (Heap.one D (.deferred (some [])))) := Heap.le_add_left _ _
  have ofD : (Heap.one D (.deferred (some []))).le (fin.hf.add (Heap.one D (.deferred (some [])))) := Heap.le_add_right hd
  have hDw : w.heap[D]? = some (.deferred (some [])) := hb.hf _ _ (ofD _ _ (one_at _ _))
  have nD : ∀ h : Heap, (fin.hf.add (Heap.one D (.deferred (some [])))).dj h → h D = none := fun h d => dj_at (Heap.dj_le d ofD (Heap.le_refl _)) (one_at _ _)
  have sat2 : Sat (w.putObj D (.deferred none)) hp ho Ps Os := ⟨put_le hs.inp (nD _ hb.djp), put_le hs.ino (nD _ hb.djo), hs.dj, hs.ps, hs.os⟩
  have h : ∃ v, (results fin.fn a.tmps).run fin.P (w.putObj D (.deferred none)) = .ok v (w.putObj D (.deferred none)) ∧ endR fin.w0 fin.hp0 fin.hf fin.Q (.returned v) (w.putObj D (.deferred none)) := by
    obtain ⟨h1, h2, a1, b, c1, d, e⟩ := Sep.takes hO sat2.os
    exact ⟨v, hv a _ hp ho hf sat2, v, hp, ho, Ps', Os', rfl, q, ⟨sat2.inp, sat2.ino, sat2.dj, (sat2.ents hP.ents).ps, Sep.mono a1 d⟩, hb.hp0, put_le (ofF.tr hb.hf) (dj_at (Heap.dj_symm hd) (one_at _ _)), Heap.dj_le hb.djp ofF (Heap.le_refl _), Heap.dj_le hb.djo ofF (Heap.le_refl _), hb.rest.trans put_rest⟩
  have hds : a.defers = [{ target := .collected D, args := #[] }] := by rw [hf.dfs]; show _ :: fin.N.ds = _; rw [h0.2]
  show fin.fin e a w
  rw [h0.1]
  rcases he with rfl | rfl <;> (show LeavesInM _ _ _ _ _ _ _ _ _; rw [hds]; exact ⟨by simp, .inl ⟨D, _, rfl, run_takeDeferred hDw, h⟩⟩)
theorem go_retR {D : Nat} {C0 : Ctx} (h0 : AtEnd C0) (hd : C0.hf.dj (Heap.one D (.deferred (some [])))) {v : Value} (Ps' : List PA) (Os' : List OA) {r : List OA} (hv : ∀ (a : Act) (w : World) (hp ho : Heap), Fits (after C0 D).N E a → Sat w hp ho Ps Os → (results (after C0 D).fn a.tmps).run (after C0 D).P w = .ok v w)
    (q : C0.Q v Ps' Os') (hP : Subs Ps Ps') (hO : Takes Os Os' r) : Go (after C0 D) (.code .ret :: k) E Ps Os := fun a w hp ho hf hs hb =>
  wpIn_ret (by show den C0.ro C0.P C0.fin k .ret a w; rw [den_ret]; exact go_endM (hf0 := Heap.nil) (fin := C0) rfl h0 Ps' Os' hv q hP hO (.inl rfl) hf hs hb hd)
end
def cF (x y : Fa) : Int := cmpF x.p x.a y.p y.a
theorem cmpL_swap : ∀ a b : List Int, cmpL a b = - cmpL b a
  | [], [] => rfl
  | [], _ :: _ => rfl
  | _ :: _, [] => rfl
  | x :: a, y :: b => by
    simp only [cmpL]
    by_cases h : x < y
    · rw [if_pos h, if_neg (by omega), if_pos h]
    · by_cases g : y < x
      · rw [if_neg h, if_pos g, if_pos g]; rfl
      · rw [if_neg h, if_neg g, if_neg g, if_neg h, cmpL_swap a b]
theorem cF_swap (x y : Fa) : cF x y = - cF y x := by
  unfold cF cmpF
  by_cases h1 : x.p < y.p
  · simp [h1, show ¬ y.p < x.p by omega]
  · by_cases h2 : y.p < x.p
    · simp [h1, h2]
    · by_cases h3 : x.a.length < y.a.length
      · simp [h1, h2, h3, show ¬ y.a.length < x.a.length by omega]
      · by_cases h4 : y.a.length < x.a.length
        · simp [h1, h2, h3, h4]
        · simp only [h1, h2, h3, h4, if_false]; exact cmpL_swap _ _
theorem cF_zero {x y : Fa} : cF x y = 0 ↔ x = y := cmpF_zero
theorem cmpL_trans : ∀ {a b c : List Int}, cmpL a b < 0 → cmpL b c < 0 → cmpL a c < 0
  | [], [], _, h, _ => by simp [cmpL] at h
  | [], _ :: _, [], _, h => by simp [cmpL] at h
  | [], _ :: _, _ :: _, _, _ => by simp [cmpL]
  | _ :: _, [], _, h, _ => by simp [cmpL] at h
  | _ :: _, _ :: _, [], _, h => by simp [cmpL] at h
  | x :: a, y :: b, z :: c, h, g => by
    simp only [cmpL] at h g ⊢
    by_cases h1 : x < y
    · by_cases g1 : y < z
      · rw [if_pos (by omega)]; omega
      · rw [if_neg g1] at g
        by_cases g2 : z < y
        · rw [if_pos g2] at g; omega
        · rw [if_pos (by omega)]; omega
    · rw [if_neg h1] at h
      by_cases h2 : y < x
      · rw [if_pos h2] at h; omega
      · rw [if_neg h2] at h
        by_cases g1 : y < z
        · rw [if_pos (by omega)]; omega
        · rw [if_neg g1] at g
          by_cases g2 : z < y
          · rw [if_pos g2] at g; omega
          · rw [if_neg g2] at g
            rw [if_neg (by omega), if_neg (by omega)]
            exact cmpL_trans h g
theorem cF_lt_iff (x y : Fa) : cF x y < 0 ↔ x.p < y.p ∨ (x.p = y.p ∧ (x.a.length < y.a.length ∨ (x.a.length = y.a.length ∧ cmpL x.a y.a < 0))) := by
  unfold cF cmpF
  by_cases h1 : x.p < y.p
  · simp [h1]
  · by_cases h2 : y.p < x.p
    · simp [h1, h2]; omega
    · by_cases h3 : x.a.length < y.a.length
      · simp [h1, h2, h3]; omega
      · by_cases h4 : y.a.length < x.a.length
        · simp [h1, h2, h3, h4]; omega
        · simp only [h1, h2, h3, h4, if_false, false_or]
          constructor
          · intro h; exact ⟨by omega, by omega, h⟩
          · exact fun h => h.2.2
theorem cF_trans {x y z : Fa} (h : cF x y < 0) (g : cF y z < 0) : cF x z < 0 := by
  rw [cF_lt_iff] at *
  rcases h with h | ⟨h1, h | ⟨h2, h3⟩⟩ <;> rcases g with g | ⟨g1, g | ⟨g2, g3⟩⟩
  · left; omega
  · left; omega
  · left; omega
  · left; omega
  · right; exact ⟨by omega, .inl (by omega)⟩
  · right; exact ⟨by omega, .inl (by omega)⟩
  · left; omega
  · right; exact ⟨by omega, .inl (by omega)⟩
  · right; exact ⟨by omega, .inr ⟨by omega, cmpL_trans h3 g3⟩⟩
def rises (l : List Fa) : Prop := l.Pairwise fun x y => cF x y < 0
def at_ (l : List Fa) (q : Fa) : Nat := (l.takeWhile fun x => decide (cF x q < 0)).length
theorem at_le (l : List Fa) (q : Fa) : at_ l q ≤ l.length := (List.takeWhile_sublist _).length_le
theorem at_of {l : List Fa} {q : Fa} {i : Nat} (hi : i ≤ l.length) (h1 : ∀ x ∈ l.take i, cF x q < 0) (h2 : ∀ x ∈ l.drop i, ¬ cF x q < 0) : at_ l q = i := by
  unfold at_
  have e : l.takeWhile (fun x => decide (cF x q < 0)) = l.take i := by
    conv => lhs; rw [← List.take_append_drop i l]
    rw [List.takeWhile_append_of_pos (fun x hx => by simpa using h1 x hx)]
    have : (l.drop i).takeWhile (fun x => decide (cF x q < 0)) = [] := by
      cases hd : l.drop i with
      | nil => rfl
      | cons y r =>
        have := h2 y (by rw [hd]; exact .head _)
        simp [List.takeWhile_cons, this]
    rw [this, List.append_nil]
  rw [e]; simp; omega
theorem rises_take {l : List Fa} (h : rises l) {k : Nat} (hk : k < l.length) {q : Fa} (g : cF l[k] q < 0) : ∀ x ∈ l.take (k + 1), cF x q < 0 := by
  rw [List.take_succ_eq_append_getElem hk]
  intro x hx
  rcases List.mem_append.1 hx with hx | hx
  · obtain ⟨j, hj, rfl⟩ := List.mem_take_iff_getElem.1 hx
    have := List.pairwise_iff_getElem.1 h j k (by omega) hk (by omega)
    exact cF_trans this g
  · simp at hx; subst hx; exact g
theorem rises_drop {l : List Fa} (h : rises l) {k : Nat} (hk : k < l.length) {q : Fa} (g : ¬ cF l[k] q < 0) : ∀ x ∈ l.drop k, ¬ cF x q < 0 := by
  rw [List.drop_eq_getElem_cons hk]
  intro x hx
  rcases List.mem_cons.1 hx with rfl | hx
  · exact g
  · obtain ⟨j, hj, rfl⟩ := List.getElem_of_mem hx
    rw [List.getElem_drop]
    have := List.pairwise_iff_getElem.1 h k (k + 1 + j) hk (by simp at hj; omega) (by omega)
    intro c
    have h1 := cF_trans this c
    exact g h1
theorem has_at {l : List Fa} (h : rises l) (q : Fa) : (∃ hk : at_ l q < l.length, l[at_ l q] = q) ↔ q ∈ l := by
  constructor
  · rintro ⟨hk, e⟩; rw [← e]; exact List.getElem_mem _
  · intro hm
    obtain ⟨j, hj, e⟩ := List.getElem_of_mem hm
    have : at_ l q = j := at_of (by omega) (fun x hx => by
      obtain ⟨i, hi, rfl⟩ := List.mem_take_iff_getElem.1 hx
      have := List.pairwise_iff_getElem.1 h i j (by omega) hj (by omega)
      rw [e] at this; exact this) (rises_drop h hj (by rw [e, (cF_zero (x := q) (y := q)).2 rfl]; omega))
    subst this
    exact ⟨hj, e⟩
theorem wrap_u64 {n : Int} (h : 0 ≤ n ∧ n < 18446744073709551616) : IntKind.u64.wrap n = n := by
  unfold IntKind.wrap IntKind.signed IntKind.bits
  simp
  omega
theorem half {n : Nat} : ((n : Int)).fdiv (2 ^ Nat.min 1 IntKind.u64.bits) = ((n / 2 : Nat) : Int) := by
  have : (2 : Int) ^ Nat.min 1 IntKind.u64.bits = 2 := by decide
  rw [this, Int.fdiv_eq_ediv_of_nonneg _ (by omega)]
  omega
section
variable {C : Ctx} {k : List It} {E : Env} {Ps : List PA} {Os : List OA}
theorem go_rp_fa' {x : Fa} {ds : List Value} (h : rp tFa x ds ∈ Ps) (g : ∀ A c, ds = [.int .u32 x.p, .slice A x.a.length c] → Go C k E (sl tU A c x.a :: Ps) Os) : Go C k E Ps Os := fun a w hp ho hf hs hb => by
  obtain ⟨A, c, e, s⟩ := tFa_open (hs.ps _ h)
  exact g A c e a w hp ho hf (hs.addp s) hb
theorem go_nil_sl {α : Type} {T : Ty α} {c : Nat} {xs : List α} (h : sl T none c xs ∈ Ps) (g : xs = [] → Go C k E Ps Os) : Go C k E Ps Os :=
  go_fact (φ := xs = []) _ h (fun _ s => List.eq_nil_of_length_eq_zero (by have := s.1; have := s.2.2.1 rfl; omega)) g
end
theorem bin_yes {l : List Fa} {q : Fa} {i : Nat} (h : rises l) (hi : i < l.length) (hi' : i ≤ l.length) (h1 : ∀ x ∈ l.take i, cF x q < 0) (h2 : ∀ x ∈ l.drop i, ¬ cF x q < 0) :
    Value.tuple #[.int .i64 (at_ l q : Int), .bool (decide (q ∈ l))] = Value.tuple #[.int .i64 (i : Int), .bool (decide (cmpF l[i].p l[i].a q.p q.a = 0))] := by
  have e := at_of hi' h1 h2
  have hb : decide (q ∈ l) = decide (cmpF l[i].p l[i].a q.p q.a = 0) := by
    rw [decide_eq_decide, ← has_at h q]
    constructor
    · rintro ⟨hk, g⟩
      subst e
      exact cmpF_zero.2 g
    · intro g
      subst e
      exact ⟨hi, cmpF_zero.1 g⟩
  rw [e, hb]
theorem bin_no {l : List Fa} {q : Fa} {i : Nat} (h : rises l) (hi : i = l.length) (h1 : ∀ x ∈ l.take i, cF x q < 0) : Value.tuple #[.int .i64 (at_ l q : Int), .bool (decide (q ∈ l))] = Value.tuple #[.int .i64 (i : Int), .bool false] := by
  have e : at_ l q = i := at_of (by omega) h1 (by subst hi; simp)
  have hb : decide (q ∈ l) = false := by
    rw [decide_eq_false_iff_not, ← has_at h q]
    rintro ⟨hk, _⟩
    omega
  rw [e, hb]
def fput (l : List Fa) (q : Fa) : List Fa := if q ∈ l then l else l.take (at_ l q) ++ q :: l.drop (at_ l q)
theorem fput_yes {l : List Fa} {q : Fa} (h : q ∈ l) : fput l q = l := by unfold fput; rw [if_pos h]
theorem fput_no {l : List Fa} {q : Fa} (h : ¬ q ∈ l) : fput l q = l.take (at_ l q) ++ q :: l.drop (at_ l q) := by unfold fput; rw [if_neg h]
end Go.Proofs.YtdconhalfanclaaGreat.SL
namespace Go.Proofs.YtdconhalfanclaaGreat.SL
open Go
theorem cloneU (A : Option Addr) (c : Nat) (a : List Int) (hn : a.length ≤ 100000) :
    Spec Tryz.prog 55 #[.slice A a.length c] [sl tU A c a] [] (fun v Ps' Os' => ∃ A' c', v = .slice A' a.length c' ∧ Ps' = [] ∧ Os' = [ol tU 26 A' c' a]) := by
 refine zSp _ Tryz.func55 Tryz.ntmps55 (fun _ _ _ => ?_)
 refine zB 10 ?_ ?_
 ·intro c1
  (try simp only [dcs, ne_eq] at c1)
  obtain rfl : A = none := by simpa using c1
  refine go_nil_sl (xs := a) zM (fun ha => ?_)
  subst ha
  refine go_own_nil tU 26 none ?_
  refine zT 4 rfl ⟨none, 0, rfl, rfl, rfl⟩
 intro c1
 (try simp only [dcs, ne_eq] at c1)
 refine zV 3 ?_
 intro bo
 refine go_lit_ol (b := bo) tU [] zM (fun _ _ => rfl) (by simp) ?_
 refine zR 1 ?_
 refine go_appendN (T := tU) (xs := []) (ys := a) Tk rfl rfl rfl rfl rfl rfl rfl rfl rfl zM rfl zM (by simp; omega) zF ?_
 intro A2 c2
 rw [List.nil_append]
 refine zT 2 rfl ⟨A2, c2, rfl, rfl, rfl⟩
theorem relCopied (q : Fa) (QA : Option Addr) (qc : Nat) (hn : q.a.length ≤ 100000) :
    Spec Tryz.prog 104 #[.agg #[.int .u32 q.p, .slice QA q.a.length qc]] [sl tU QA qc q.a] [] (fun v Ps' Os' => ∃ A' c', v = .agg #[.int .u32 q.p, .slice A' q.a.length c'] ∧ Ps' = [] ∧ Os' = [ol tU 26 A' c' q.a]) := by
 refine zSp _ Tryz.func104 Tryz.ntmps104 (fun _ _ _ => ?_)
 refine zX 2 ?_
 intro b1
 refine zW 0 ?_
 intro b2
 refine zL 4 ?_
 refine zC 0 (cloneU QA qc q.a hn) ?_
 rintro _ _ _ ⟨A', c', rfl, rfl, rfl⟩
 refine zS 1 ?_
 refine zL 3 ?_
 refine zS 0 ?_
 refine zR 1 ?_
 refine go_ret ⟨rfl, rfl⟩ _ _ (res1 (by rfl) (.cell rfl (rdv Tk rfl))) ⟨A', c', rfl, rfl, rfl⟩ zM zM
theorem binSearch (A : Option Addr) (c : Nat) (l : List Fa) (q : Fa) (QA : Option Addr) (qc : Nat) (hr : rises l) (hn : l.length ≤ 50000000) :
    Spec Tryz.prog 113 #[.slice A l.length c, .agg #[.int .u32 q.p, .slice QA q.a.length qc], .func (.func 89) #[] #[]] [sl tU QA qc q.a] [ol tFa 40 A c l] (fun v Ps' Os' => v = .tuple #[.int .i64 (at_ l q : Int), .bool (decide (q ∈ l))] ∧ Ps' = [] ∧ Os' = [ol tFa 40 A c l]) := by
 refine zSp _ Tryz.func113 Tryz.ntmps113 (fun _ _ _ => ?_)
 refine zX 2 ?_
 intro b1
 refine zR 17 ?_
 refine zO (X := Nat × Nat) (fun x => [(9, .int .i64 (x.1 : Int)), (10, .int .i64 (x.2 : Int))]) [0, 2, 4, 8] (fun _ => []) (fun x => x.1 ≤ x.2 ∧ x.2 ≤ l.length ∧ (∀ y ∈ l.take x.1, cF y q < 0) ∧ ∀ y ∈ l.drop x.2, ¬ cF y q < 0) (fun x => x.2 - x.1) (0, l.length) ⟨by omega, by omega, by simp, by simp⟩ ?_
 intro ⟨i, j⟩ ⟨hij, hj, hlo, hhi⟩
 simp only at hij hj hlo hhi ⊢
 refine zD 7 ?_ ?_
 ·intro c1
  refine zR 7 ?_
  refine zi 20 ?_
  refine zR 1 ?_
  refine go_re 21 (.int .u64 ((i + j : Nat) : Int)) (by show some (Value.int _ _) = _; rw [wrap_u64 (by omega)]; rfl) ?_
  refine zR 1 ?_
  refine go_re 22 (.int .u64 (((i + j) / 2 : Nat) : Int)) (by show some (Value.int _ _) = _; rw [← half]) ?_
  refine zR 1 ?_
  refine zi 23 ?_
  obtain ⟨h, hh⟩ : ∃ h, h = (i + j) / 2 := ⟨_, rfl⟩
  rw [← hh]
  have hih : i ≤ h ∧ h < j := by omega
  refine zR 3 ?_
  refine go_ol_open (xs := l) zM (by omega) (fun b0 cs cur hA h1 h2 h3 h4 h5 => ?_); cases hA
  refine go_rps_at zM (h) (List.getElem?_eq_getElem (by omega)) (fun ds d1 d2 => ?_)
  refine go_rp_fa' zM (fun FA fc hd => ?_); subst hd
  refine zY 0 [1, 4, 7, 10, 14, 17, 18, 22] ?_
  refine zI 3 ?_
  refine go_val2a rfl (load_val Tk rfl rfl rfl (at_row 0 zM h2 d2 rfl) rfl) rfl ?_
  refine zK 0 ?_
  refine zC3 0 (atomsCompare _ _ _ _ _ _ _ _) ?_
  refine zR 2 ?_
  refine go_ol_close l zM zM h1 h2 h3 h4 ?_
  refine zE 0 [0, 2, 4, 8, 9, 10, 11, 31] ?_
  refine zD' 0 ?_ ?_
  ·intro c2
   refine zR 5 ?_
   refine zz (i, h) ⟨by show i ≤ h; omega, by show h ≤ _; omega, hlo, rises_drop hr (by omega) c2⟩ (by show h - i < j - i; omega)
  intro c2
  refine zR 3 ?_
  refine zi 33 ?_
  refine zR 3 ?_
  refine zz (h + 1, j) ⟨by show h + 1 ≤ j; omega, hj, rises_take hr (by omega) c2, hhi⟩ (by show j - (h + 1) < j - i; omega)
 intro c1
 refine zR 2 ?_
 by_cases hin : i < l.length
 ·skip
  refine go_ol_open (xs := l) zM (by omega) (fun b0 cs cur hA h1 h2 h3 h4 h5 => ?_); cases hA
  refine go_rps_at zM (i) (List.getElem?_eq_getElem (by omega)) (fun ds d1 d2 => ?_)
  refine go_rp_fa' zM (fun FA fc hd => ?_); subst hd
  refine zY 0 [1, 4, 7, 10, 13, 16, 19, 22, 25, 29, 32, 33, 37, 40, 43, 46] ?_
  refine zR 4 ?_
  refine go_re 38 (.bool true) (by show some (Value.bool (decide _)) = _; rw [decide_eq_true (by omega)]) ?_
  refine zI 4 ?_
  refine go_val2a rfl (load_val Tk rfl rfl rfl (at_row 0 zM h2 d2 rfl) rfl) rfl ?_
  refine zK 0 ?_
  refine zC3 0 (atomsCompare _ _ _ _ _ _ _ _) ?_
  refine zR 5 ?_
  refine go_ol_close l zM zM h1 h2 h3 h4 ?_
  refine zE 0 [6, 7] ?_
  refine zT 0 rfl ⟨by rw [bin_yes hr hin (by omega) hlo (by have := hhi; rwa [show j = i from by omega] at this)], rfl, rfl⟩
 ·skip
  refine zY 0 [1, 4, 7, 10, 13, 16, 19, 22, 25, 29, 32, 33, 37, 40, 43, 46] ?_
  refine zR 4 ?_
  refine go_re 38 (.bool false) (by show some (Value.bool (decide _)) = _; rw [decide_eq_false (by omega)]) ?_
  refine zJ 5 ?_
  refine zJ 0 ?_
  refine zE 6 [6, 7] ?_
  refine zT 0 rfl ⟨by rw [bin_no hr (by omega) hlo], rfl, rfl⟩
def relO (b : Nat) (l : List Fa) : OA := OA.ex fun A : Option Addr => OA.ex fun c : Nat => OA.all [pt b 127 [.slice A (l).length c], ol tFa 40 A c (l)]
theorem relO_mk {b : Nat} {A : Option Addr} {c : Nat} {l : List Fa} {hp h : Heap} (q : Sep hp [pt b 127 [.slice A (l).length c], ol tFa 40 A c (l)] h) : (relO b l).p hp h := ⟨A, c, q⟩
theorem go_rel {C : Ctx} {k : List It} {E : Env} {Ps : List PA} {Os : List OA} {b : Nat} {l : List Fa} {rr : List OA} (h : Rem (relO b l) Os rr) (g : ∀ (A : Option Addr) (c : Nat), Go C k E Ps ([pt b 127 [.slice A (l).length c], ol tFa 40 A c (l)] ++ rr)) : Go C k E Ps Os :=
  go_oex h fun A => go_oex .here fun c => go_oall .here (g A c)
theorem relNew  :
    Spec Tryz.prog 52 #[] [] [] (fun v Ps' Os' => ∃ b, v = .pointer (some ⟨b, 0, none⟩) ∧ Ps' = [] ∧ Os' = [relO b []]) := by
 refine zSp _ Tryz.func52 Tryz.ntmps52 (fun _ _ _ => ?_)
 refine zq 6 ?_
 refine zX 0 ?_
 intro b
 refine go_own_nil tFa 40 none ?_
 refine go_fold [pt b 127 [.slice none ([]).length 0], ol tFa 40 none 0 ([])] (relO b ([])) zM (fun _ _ q => relO_mk q) ?_
 refine zT 2 rfl ⟨_, rfl, rfl, rfl⟩
theorem relPlace (b : Nat) (l : List Fa) (q : Fa) (QA : Option Addr) (qc : Nat) (hr : rises l) (hn : l.length ≤ 50000000) :
    Spec Tryz.prog 85 #[.pointer (some ⟨b, 0, none⟩), .agg #[.int .u32 q.p, .slice QA q.a.length qc]] [sl tU QA qc q.a] [relO b l] (fun v Ps' Os' => v = .tuple #[.int .i64 (at_ l q : Int), .bool (decide (q ∈ l))] ∧ Ps' = [] ∧ Os' = [relO b l]) := by
 refine zSp _ Tryz.func85 Tryz.ntmps85 (fun _ _ _ => ?_)
 refine zX 2 ?_
 intro b1
 refine zDf 9 ?_
 refine zR 2 ?_
 refine go_rel (b := b) zM (fun A1 c1 => ?_)
 refine zY 0 [1, 4, 7, 11, 14, 15, 19, 22, 25, 28] ?_
 refine zK 3 ?_
 refine zK 0 ?_
 refine zC3 0 (binSearch A1 c1 l q QA qc hr hn) ?_
 refine zR 5 ?_
 refine go_fold [pt b 127 [.slice A1 (l).length c1], ol tFa 40 A1 c1 (l)] (relO b (l)) zM (fun _ _ q => relO_mk q) ?_
 refine zE 0 [4, 5] ?_
 refine zT 0 rfl ⟨rfl, rfl, rfl⟩
theorem relPlace0 (q : Fa) (QA : Option Addr) (qc : Nat) :
    Spec Tryz.prog 85 #[.pointer none, .agg #[.int .u32 q.p, .slice QA q.a.length qc]] [] [] (fun v Ps' Os' => v = .tuple #[.int .i64 0, .bool false] ∧ Ps' = [] ∧ Os' = []) := by
 refine zSp _ Tryz.func85 Tryz.ntmps85 (fun _ _ _ => ?_)
 refine zX 2 ?_
 intro b1
 refine zDt 9 ?_
 refine zT 5 rfl ⟨rfl, rfl, rfl⟩
theorem relHas (b : Nat) (l : List Fa) (q : Fa) (QA : Option Addr) (qc : Nat) (hr : rises l) (hn : l.length ≤ 50000000) :
    Spec Tryz.prog 53 #[.pointer (some ⟨b, 0, none⟩), .agg #[.int .u32 q.p, .slice QA q.a.length qc]] [sl tU QA qc q.a] [relO b l] (fun v Ps' Os' => v = .bool (decide (q ∈ l)) ∧ Ps' = [] ∧ Os' = [relO b l]) := by
 refine zSp _ Tryz.func53 Tryz.ntmps53 (fun _ _ _ => ?_)
 refine zX 2 ?_
 intro b1
 refine zL 5 ?_
 refine zC3 0 (relPlace b l q QA qc hr hn) ?_
 refine zE 11 [4] ?_
 refine zT 0 rfl ⟨rfl, rfl, rfl⟩
theorem relLen (b : Nat) (l : List Fa) :
    Spec Tryz.prog 38 #[.pointer (some ⟨b, 0, none⟩)] [] [relO b l] (fun v Ps' Os' => v = .int .i64 (l.length : Int) ∧ Ps' = [] ∧ Os' = [relO b l]) := by
 refine zSp _ Tryz.func38 Tryz.ntmps38 (fun _ _ _ => ?_)
 refine zDf 10 ?_
 refine zR 2 ?_
 refine go_rel (b := b) zM (fun A1 c1 => ?_)
 refine zL 4 ?_
 refine zR 3 ?_
 refine go_fold [pt b 127 [.slice A1 (l).length c1], ol tFa 40 A1 c1 (l)] (relO b (l)) zM (fun _ _ q => relO_mk q) ?_
 refine zT 0 rfl ⟨rfl, rfl, rfl⟩
theorem relLen0  :
    Spec Tryz.prog 38 #[.pointer none] [] [] (fun v Ps' Os' => v = .int .i64 0 ∧ Ps' = [] ∧ Os' = []) := by
 refine zSp _ Tryz.func38 Tryz.ntmps38 (fun _ _ _ => ?_)
 refine zDt 10 ?_
 refine zT 4 rfl ⟨rfl, rfl, rfl⟩
theorem insertFa (A : Option Addr) (c : Nat) (l : List Fa) (k bv : Nat) (q : Fa) (QA : Option Addr) (qc : Nat) (hk : k ≤ l.length) (hn : l.length ≤ 50000000) :
    Spec Tryz.prog 103 #[.slice A l.length c, .int .i64 (k : Int), .slice (some ⟨bv, 0, none⟩) 1 1] [sl tU QA qc q.a] [ol tFa 40 A c l, pt bv 40 [Value.int IntKind.u32 q.p, Value.slice QA q.a.length qc]] (fun v Ps' Os' => ∃ A2 c2, v = .slice A2 (l.take k ++ q :: l.drop k).length c2 ∧ Ps' = [] ∧ Os' = [ol tFa 40 A2 c2 (l.take k ++ q :: l.drop k)]) := by
 refine zSp _ Tryz.func103 Tryz.ntmps103 (fun _ _ _ => ?_)
 refine zR 1 ?_
 refine go_len_ol (xs := l) zM (fun l0 m0 => ?_)
 refine zR 7 ?_
 refine go_val0 rfl (slice_val' Tk rfl rfl rfl rfl k l.length c _ (by first | rfl | exact ⟨_, rfl⟩ | exact ⟨rfl, rfl⟩) (by first | rfl | exact ⟨_, rfl⟩ | exact ⟨rfl, rfl⟩) (by first | rfl | exact ⟨_, rfl⟩ | exact ⟨rfl, rfl⟩) hk (by omega) (by omega) rfl) rfl ?_
 refine zD 13 ?_ ?_
 ·intro c1
  exfalso; omega
 intro c1
 refine zE 14 [0, 1, 2, 7, 8, 22] ?_
 refine zD 0 ?_ ?_
 ·intro ck
  obtain rfl : k = l.length := by omega
  rw [List.take_length, List.drop_length]
  refine zR 4 ?_
  refine go_append1 (T := tFa) Tk q rfl rfl rfl rfl rfl rfl rfl rfl rfl zM zM rfl (ent_fa zM) (by omega) zF ?_
  intro A2 c2
  refine zT 2 rfl ⟨A2, c2, rfl, rfl, rfl⟩
 intro ck
 refine zR 7 ?_
 refine zi 28 ?_
 refine zD 4 ?_ ?_
 ·intro cc
  refine go_ol_open (xs := l) zM (by omega) (fun b cs cur hA h1 h2 h3 h4 h5 => ?_); cases hA
  refine go_fact (rps tFa l cs) zM (fun _ q => Reps.one q) (fun hone => ?_)
  refine zR 4 ?_
  refine go_val0 rfl (slice_val' Tk rfl rfl rfl rfl 0 k c (.slice (some ⟨b, 0, none⟩) k c) (by first | rfl | exact ⟨_, rfl⟩ | exact ⟨rfl, rfl⟩) (by first | rfl | exact ⟨_, rfl⟩ | exact ⟨rfl, rfl⟩) (by first | rfl | exact ⟨_, rfl⟩ | exact ⟨rfl, rfl⟩) (by omega) (by omega) (by omega) (by rw [sub0]; rfl)) rfl ?_
  refine zR 3 ?_
  refine zi 37 ?_
  refine zR 2 ?_
  refine zi 39 ?_
  refine go_re 39 (.int .i64 ((l.length + 1 - k : Nat) : Int)) (by show some (Value.int _ _) = some (Value.int _ _); congr 2; omega) ?_
  refine go_append_zeros (m := l.length + 1 - k) (old := cs.take (k * tFa.size)) Tk rfl rfl rfl rfl rfl rfl rfl rfl rfl rfl (at_head (b := b) (cur := cur) zM h2 (by rw [h5]; exact Nat.mul_le_mul_right _ hk) rfl) (by omega) (by omega) (by omega) rfl zF ?_
  intro b2 c2 cur2 g1 g2 g3 g4
  rw [show k + (l.length + 1 - k) = l.length + 1 from by omega]
  have hins := ins_cells (v := [Value.int IntKind.u32 q.p, Value.slice QA q.a.length qc]) h5 rfl g1 g2 hk (by omega) (0 + k * tFa.size) (0 + (k + 1) * tFa.size) (Nat.zero_add _) (Nat.zero_add _)
  refine zE 2 [0, 1, 2, 7, 9] ?_
  refine zR 4 ?_
  refine go_val0 rfl (slice_val' Tk rfl rfl rfl rfl k (l.length + 1) c2 (.slice (some ⟨b2, 0 + k * tFa.size, none⟩) (l.length + 1 - k) (c2 - k)) (by first | rfl | exact ⟨_, rfl⟩ | exact ⟨rfl, rfl⟩) (by first | rfl | exact ⟨_, rfl⟩ | exact ⟨rfl, rfl⟩) (by first | rfl | exact ⟨_, rfl⟩ | exact ⟨rfl, rfl⟩) (by omega) (by omega) (by omega) (by rw [subN (by omega)]; rfl)) rfl ?_
  refine zR 1 ?_
  refine go_copy (b := b2) (news := [Value.int IntKind.u32 q.p, Value.slice QA q.a.length qc]) Tk rfl rfl rfl rfl rfl rfl rfl zM 1 (by show Nat.min 1 _ = 1; exact Nat.min_eq_left (by omega)) (at_pt (b := bv) zM rfl) rfl hins.2.2.1 zF ?_
  refine zY 2 [1, 4, 7, 10, 13, 16, 19, 22, 24] ?_
  refine zR 4 ?_
  refine zi 49 ?_
  refine go_val1 rfl (slice_val' Tk rfl rfl rfl rfl (k + 1) (l.length + 1) c2 (.slice (some ⟨b2, 0 + (k + 1) * tFa.size, none⟩) (l.length + 1 - (k + 1)) (c2 - (k + 1))) (by first | rfl | exact ⟨_, rfl⟩ | exact ⟨rfl, rfl⟩) (by first | rfl | exact ⟨_, rfl⟩ | exact ⟨rfl, rfl⟩) (by first | rfl | exact ⟨_, rfl⟩ | exact ⟨rfl, rfl⟩) (by omega) (by omega) (by omega) (by rw [subN (by omega)]; rfl)) rfl ?_
  refine zR 2 ?_
  refine go_val1 rfl (slice_val' Tk rfl rfl rfl rfl k l.length c (.slice (some ⟨b, 0 + k * tFa.size, none⟩) (l.length - k) (c - k)) (by first | rfl | exact ⟨_, rfl⟩ | exact ⟨rfl, rfl⟩) (by first | rfl | exact ⟨_, rfl⟩ | exact ⟨rfl, rfl⟩) (by first | rfl | exact ⟨_, rfl⟩ | exact ⟨rfl, rfl⟩) (by omega) (by omega) (by omega) (by rw [subN (by omega)]; rfl)) rfl ?_
  refine go_copy (b := b2) (b2 := b) (news := cs.drop (k * tFa.size)) Tk rfl rfl rfl rfl rfl rfl rfl zM (l.length - k) (by show Nat.min _ _ = _; exact Nat.min_eq_left (by omega)) (at_any (b := b) (e := 40) (cur := cur) zM (by rw [List.length_drop, h5, Nat.sub_mul]; rfl) (cut_news h2 _ (.inr (Nat.zero_add _)))) (oneCells_drop _ hone) hins.2.2.2 zF ?_
  refine go_ent (rps tFa (l.take k ++ q :: l.drop k) (cs.take (k * tFa.size) ++ ([Value.int IntKind.u32 q.p, Value.slice QA q.a.length qc] ++ cs.drop (k * tFa.size)))) (fun hh a => Reps.ins (a (rps tFa l cs) zM) (tFa_mk (a (sl tU QA qc q.a) zM)) hk) ?_
  have hlen : (l.take k ++ q :: l.drop k).length = l.length + 1 := by simp; omega
  refine go_ol_close (l.take k ++ q :: l.drop k) zM zM hins.2.1 (by rw [hlen]; exact hins.1) (by omega) (by assumption) ?_
  rw [show l.length + 1 = (l.take k ++ q :: l.drop k).length from hlen.symm]
  refine zE 1 [9] ?_
  refine zT 5 rfl ⟨_, c2, rfl, rfl, rfl⟩
 intro cc
 refine go_ol_open (xs := l) zM (by omega) (fun b cs cur hA h1 h2 h3 h4 h5 => ?_); cases hA
 refine go_fact (rps tFa l cs) zM (fun _ q => Reps.one q) (fun hone => ?_)
 refine zR 7 ?_
 refine zi 59 ?_
 refine go_val0 rfl (slice_val' Tk rfl rfl rfl rfl 0 (l.length + 1) c (.slice (some ⟨b, 0, none⟩) (l.length + 1) c) (by first | rfl | exact ⟨_, rfl⟩ | exact ⟨rfl, rfl⟩) (by first | rfl | exact ⟨_, rfl⟩ | exact ⟨rfl, rfl⟩) (by first | rfl | exact ⟨_, rfl⟩ | exact ⟨rfl, rfl⟩) (by omega) (by omega) (by omega) (by rw [sub0]; rfl)) rfl ?_
 refine zE 2 [0, 1, 2, 7, 8] ?_
 refine zR 8 ?_
 refine zi 65 ?_
 refine go_val0 rfl (slice_val' Tk rfl rfl rfl rfl (k + 1) (l.length + 1) c (.slice (some ⟨b, 0 + (k + 1) * tFa.size, none⟩) (l.length + 1 - (k + 1)) (c - (k + 1))) (by first | rfl | exact ⟨_, rfl⟩ | exact ⟨rfl, rfl⟩) (by first | rfl | exact ⟨_, rfl⟩ | exact ⟨rfl, rfl⟩) (by first | rfl | exact ⟨_, rfl⟩ | exact ⟨rfl, rfl⟩) (by omega) (by omega) (by omega) (by rw [subN (by omega)]; rfl)) rfl ?_
 refine go_val0 rfl (ext_val Tryz.func133 (by kernel_rfl) (by kernel_rfl) (by kernel_rfl) (e := Extern.SlicesOverlaps.overlaps #[23, 23] #[4]) (by kernel_rfl) rfl (by rfl) (apart_run Tk (tS := 23) rfl rfl (ba := bv) (bb := b) zM zM (fun e => by rw [e, List.length_nil] at h1; have := Nat.mul_pos (show 0 < c by omega) (show 0 < tFa.size by decide); omega))) rfl ?_
 refine zDt 2 ?_
 refine zR 1 ?_
 have hins := ins_cells2 (v := [Value.int IntKind.u32 q.p, Value.slice QA q.a.length qc]) h5 rfl h1 h2 hk (by omega) (0 + k * tFa.size) (0 + (k + 1) * tFa.size) (Nat.zero_add _) (Nat.zero_add _)
 refine zY 0 [1, 4, 7, 10, 13, 16, 19, 22, 24] ?_
 refine zR 4 ?_
 refine zi 72 ?_
 refine go_val1 rfl (slice_val' Tk rfl rfl rfl rfl (k + 1) (l.length + 1) c (.slice (some ⟨b, 0 + (k + 1) * tFa.size, none⟩) (l.length + 1 - (k + 1)) (c - (k + 1))) (by first | rfl | exact ⟨_, rfl⟩ | exact ⟨rfl, rfl⟩) (by first | rfl | exact ⟨_, rfl⟩ | exact ⟨rfl, rfl⟩) (by first | rfl | exact ⟨_, rfl⟩ | exact ⟨rfl, rfl⟩) (by omega) (by omega) (by omega) (by rw [subN (by omega)]; rfl)) rfl ?_
 refine zR 2 ?_
 refine go_val1 rfl (slice_val' Tk rfl rfl rfl rfl k (l.length + 1) c (.slice (some ⟨b, 0 + k * tFa.size, none⟩) (l.length + 1 - k) (c - k)) (by first | rfl | exact ⟨_, rfl⟩ | exact ⟨rfl, rfl⟩) (by first | rfl | exact ⟨_, rfl⟩ | exact ⟨rfl, rfl⟩) (by first | rfl | exact ⟨_, rfl⟩ | exact ⟨rfl, rfl⟩) (by omega) (by omega) (by omega) (by rw [subN (by omega)]; rfl)) rfl ?_
 refine go_copy (b := b) (b2 := b) (news := cs.drop (k * tFa.size)) Tk rfl rfl rfl rfl rfl rfl rfl zM (l.length - k) (by show Nat.min _ _ = _; rw [show l.length + 1 - (k + 1) = l.length - k from by omega]; exact Nat.min_eq_right (by omega)) (at_any (b := b) (e := 40) (cur := cur) zM (by rw [List.length_drop, h5, Nat.sub_mul]; rfl) (cut_news h2 _ (.inr (Nat.zero_add _)))) (oneCells_drop _ hone) hins.2.2.1 zF ?_
 refine zE 1 [0, 1, 2] ?_
 refine zR 4 ?_
 refine go_val0 rfl (slice_val' Tk rfl rfl rfl rfl k (l.length + 1) c (.slice (some ⟨b, 0 + k * tFa.size, none⟩) (l.length + 1 - k) (c - k)) (by first | rfl | exact ⟨_, rfl⟩ | exact ⟨rfl, rfl⟩) (by first | rfl | exact ⟨_, rfl⟩ | exact ⟨rfl, rfl⟩) (by first | rfl | exact ⟨_, rfl⟩ | exact ⟨rfl, rfl⟩) (by omega) (by omega) (by omega) (by rw [subN (by omega)]; rfl)) rfl ?_
 refine zR 1 ?_
 refine go_copy (b := b) (news := [Value.int IntKind.u32 q.p, Value.slice QA q.a.length qc]) Tk rfl rfl rfl rfl rfl rfl rfl zM 1 (by show Nat.min 1 _ = 1; exact Nat.min_eq_left (by omega)) (at_pt (b := bv) zM rfl) rfl hins.2.2.2 zF ?_
 refine go_ent (rps tFa (l.take k ++ q :: l.drop k) (cs.take (k * tFa.size) ++ ([Value.int IntKind.u32 q.p, Value.slice QA q.a.length qc] ++ cs.drop (k * tFa.size)))) (fun hh a => Reps.ins (a (rps tFa l cs) zM) (tFa_mk (a (sl tU QA qc q.a) zM)) hk) ?_
 have hlen : (l.take k ++ q :: l.drop k).length = l.length + 1 := by simp; omega
 refine go_ol_close (l.take k ++ q :: l.drop k) zM zM hins.2.1 (by rw [hlen]; exact hins.1) (by omega) (by assumption) ?_
 rw [show l.length + 1 = (l.take k ++ q :: l.drop k).length from hlen.symm]
 refine zT 6 rfl ⟨_, c, rfl, rfl, rfl⟩
theorem relPut (b : Nat) (l : List Fa) (q : Fa) (QA : Option Addr) (qc : Nat) (hr : rises l) (hn : l.length ≤ 50000000) (hm : q.a.length ≤ 100000) :
    Spec Tryz.prog 65 #[.pointer (some ⟨b, 0, none⟩), .agg #[.int .u32 q.p, .slice QA q.a.length qc]] [sl tU QA qc q.a] [relO b l] (fun v Ps' Os' => v = .bool (!decide (q ∈ l)) ∧ Ps' = [] ∧ Os' = [relO b (fput l q)]) := by
 refine zSp _ Tryz.func65 Tryz.ntmps65 (fun _ _ _ => ?_)
 refine zX 2 ?_
 intro b1
 refine zL 5 ?_
 refine zC3 0 (relPlace b l q QA qc hr hn) ?_
 refine zG 11 14 ?_ ?_
 ·intro g1
  (try simp only [dcs, ne_eq] at g1)
  refine zE 4 [0, 3, 5, 17] ?_
  refine zDt 0 ?_
  refine zT 4 rfl ⟨by rw [decide_eq_true (by simpa using g1)]; rfl, rfl, by rw [fput_yes (by simpa using g1)]⟩
 intro g1
 (try simp only [dcs, ne_eq] at g1)
 refine zE 4 [0, 3, 5, 17] ?_
 refine zDf 0 ?_
 refine zR 2 ?_
 refine go_rel (b := b) zM (fun A1 c1 => ?_)
 refine zY 0 [1, 4, 7, 10, 16, 14, 20, 21, 24, 27, 31, 34, 36] ?_
 refine zK 5 ?_
 refine zK 0 ?_
 refine go_call (relCopied q QA qc hm) rfl rfl (by rfl) rfl zM zM (fun _ v Ps' Os' hq => by obtain ⟨A', c', rfl, rfl, rfl⟩ := hq; exact satS zM zM) ?_
 rintro _ _ _ ⟨A', c', rfl, rfl, rfl⟩
 refine go_freeze_ol (A := A') (xs := q.a) zM ?_
 refine go_bslice Tk rfl rfl rfl rfl rfl rfl rfl rfl (fun _ _ => satA) ?_
 intro bv
 refine zC 0 (insertFa A1 c1 l (at_ l q) bv q A' c' (at_le l q) hn) ?_
 rintro _ _ _ ⟨A2, c2, rfl, rfl, rfl⟩
 refine zS 2 ?_
 refine zR 1 ?_
 rw [← fput_no (by simpa using g1)]
 refine go_fold [pt b 127 [.slice A2 (fput l q).length c2], ol tFa 40 A2 c2 (fput l q)] (relO b (fput l q)) zM (fun _ _ q => relO_mk q) ?_
 refine zE 0 [] ?_
 refine zT 4 rfl ⟨by rw [decide_eq_false (by simpa using g1)]; rfl, rfl, rfl⟩
end Go.Proofs.YtdconhalfanclaaGreat.SL
namespace Go.Proofs.YtdconhalfanclaaGreat.SL
theorem take_while {α : Type} {p : α → Bool} : ∀ (l : List α), ∀ x ∈ l.take (l.takeWhile p).length, p x = true
  | [], x, h => by simp at h
  | y :: l, x, h => by
    rw [List.takeWhile_cons] at h
    by_cases hy : p y = true
    · rw [if_pos hy, List.length_cons, List.take_succ_cons] at h
      rcases List.mem_cons.1 h with rfl | h
      · exact hy
      · exact take_while l x h
    · rw [if_neg hy] at h
      simp at h
theorem at_low {l : List Fa} (q : Fa) : ∀ x ∈ l.take (at_ l q), cF x q < 0 := fun x hx => by
  have := take_while (p := fun x => decide (cF x q < 0)) l x hx
  simpa using this
theorem at_high {l : List Fa} (h : rises l) (q : Fa) : ∀ x ∈ l.drop (at_ l q), ¬ cF x q < 0 := by
  rcases Nat.lt_or_ge (at_ l q) l.length with hl | hl
  · refine rises_drop h hl ?_
    intro c
    have h1 := rises_take h hl c
    have : at_ l q + 1 ≤ (l.takeWhile fun x => decide (cF x q < 0)).length := by
      have e : l.takeWhile (fun x => decide (cF x q < 0)) = l.take (at_ l q + 1) ++ (l.drop (at_ l q + 1)).takeWhile (fun x => decide (cF x q < 0)) := by
        conv => lhs; rw [← List.take_append_drop (at_ l q + 1) l]
        rw [List.takeWhile_append_of_pos (fun x hx => by simpa using h1 x hx)]
      rw [e, List.length_append, List.length_take]
      omega
    unfold at_ at this
    omega
  · rw [List.drop_of_length_le hl]
    intro x hx; cases hx
theorem rises_fput {l : List Fa} (h : rises l) (q : Fa) : rises (fput l q) := by
  by_cases hm : q ∈ l
  · rw [fput_yes hm]; exact h
  · rw [fput_no hm]
    unfold rises at h ⊢
    have hs := h
    rw [← List.take_append_drop (at_ l q) l, List.pairwise_append] at hs
    rw [List.pairwise_append, List.pairwise_cons]
    have hi : ∀ x ∈ l.drop (at_ l q), cF q x < 0 := fun x hx => by
      have h1 := at_high h q x hx
      have h2 : cF x q ≠ 0 := fun e => hm (by rw [← cF_zero.1 e]; exact List.mem_of_mem_drop hx)
      rw [cF_swap]
      omega
    refine ⟨hs.1, ⟨hi, hs.2.1⟩, fun x hx y hy => ?_⟩
    rcases List.mem_cons.1 hy with rfl | hy
    · exact at_low _ x hx
    · exact hs.2.2 x hx y hy
theorem mem_fput {l : List Fa} {q x : Fa} : x ∈ fput l q ↔ x = q ∨ x ∈ l := by
  by_cases hm : q ∈ l
  · rw [fput_yes hm]
    constructor
    · exact .inr
    · rintro (rfl | h)
      · exact hm
      · exact h
  · rw [fput_no hm]
    conv => rhs; rw [← List.take_append_drop (at_ l q) l]
    simp only [List.mem_append, List.mem_cons]
    constructor
    · rintro (h | h | h)
      · exact .inr (.inl h)
      · exact .inl h
      · exact .inr (.inr h)
    · rintro (h | h | h)
      · exact .inr (.inl h)
      · exact .inl h
      · exact .inr (.inr h)
theorem fput_len (l : List Fa) (q : Fa) : (fput l q).length ≤ l.length + 1 := by
  unfold fput; split
  · omega
  · simp; omega
theorem rises_ext : ∀ {a b : List Fa}, rises a → rises b → (∀ x, x ∈ a ↔ x ∈ b) → a = b
  | [], [], _, _, _ => rfl
  | [], y :: b, _, _, h => by have := (h y).2 (.head _); cases this
  | x :: a, [], _, _, h => by have := (h x).1 (.head _); cases this
  | x :: a, y :: b, ha, hb, h => by
    unfold rises at ha hb
    rw [List.pairwise_cons] at ha hb
    have irr : ∀ z : Fa, ¬ cF z z < 0 := fun z => by rw [cF_zero.2 rfl]; omega
    have hxy : x = y := by
      rcases List.mem_cons.1 ((h x).1 (.head _)) with e | h1
      · exact e
      · rcases List.mem_cons.1 ((h y).2 (.head _)) with e | h2
        · exact e.symm
        · exact absurd (cF_trans (ha.1 y h2) (hb.1 x h1)) (irr x)
    subst hxy
    rw [rises_ext ha.2 hb.2 fun z => ?_]
    constructor
    · intro hz
      rcases List.mem_cons.1 ((h z).1 (.tail _ hz)) with e | h1
      · subst e; exact absurd (ha.1 z hz) (irr z)
      · exact h1
    · intro hz
      rcases List.mem_cons.1 ((h z).2 (.tail _ hz)) with e | h1
      · subst e; exact absurd (hb.1 z hz) (irr z)
      · exact h1
section
variable {C : Ctx} {k : List It} {E : Env} {Ps : List PA} {Os : List OA}
theorem go_vo_fa {e : Nat} {A : Option Addr} {c : Nat} (x : Fa) {rr : List OA} (h : Rem (ol tU e A c x.a) Os rr) (g : Go C k E Ps (vo tFa x [.int .u32 x.p, .slice A x.a.length c] :: rr)) : Go C k E Ps Os :=
  go_imp _ [vo tFa x [.int .u32 x.p, .slice A x.a.length c]] h (fun hp h1 ⟨cs, r, s⟩ => sep_one (by
    obtain ⟨q1, q2, q3, q4⟩ := r
    rcases q4 with q | ⟨b, cur, e1, e2, e3, e4⟩
    · exact ⟨Heap.nil, Heap.nil_le _, Wr.nil, tFa_mk (sl_of_row (e := e) (h1 := Heap.nil) ⟨q1, q2, q3, .inl q⟩ (Heap.le_refl _) (Reps.flat tU_flat s))⟩
    · exact ⟨Heap.one b (.cells cur e (0, 0)), Heap.one_le e2, Wr.one, tFa_mk (sl_of_row (e := e) (h1 := Heap.one b (.cells cur e (0, 0))) ⟨q1, q2, q3, .inr ⟨b, cur, e1, by simp [Heap.one], e3, e4⟩⟩ (Heap.le_refl _) (Reps.flat tU_flat s))⟩)) g
end
noncomputable def fof (l : List Fa) : List Fa := l.foldl fput []
theorem fof_next {l : List Fa} {k : Nat} (hk : k < l.length) : fof (l.take (k + 1)) = fput (fof (l.take k)) l[k] := by
  unfold fof
  rw [List.take_succ_eq_append_getElem hk, List.foldl_append]; rfl
theorem foldl_rises : ∀ (l s : List Fa), rises s → rises (l.foldl fput s)
  | [], _, h => h
  | x :: l, s, h => foldl_rises l _ (rises_fput h x)
theorem rises_fof (l : List Fa) : rises (fof l) := foldl_rises l [] .nil
theorem foldl_mem : ∀ (l s : List Fa) (x : Fa), x ∈ l.foldl fput s ↔ x ∈ s ∨ x ∈ l
  | [], s, x => by simp
  | y :: l, s, x => by
    rw [List.foldl_cons, foldl_mem l, mem_fput, List.mem_cons]
    constructor
    · rintro ((h | h) | h)
      · exact .inr (.inl h)
      · exact .inl h
      · exact .inr (.inr h)
    · rintro (h | h | h)
      · exact .inl (.inr h)
      · exact .inl (.inl h)
      · exact .inr h
theorem mem_fof {l : List Fa} {x : Fa} : x ∈ fof l ↔ x ∈ l := by simp [fof, foldl_mem]
theorem foldl_flen : ∀ (l s : List Fa), (l.foldl fput s).length ≤ s.length + l.length
  | [], s => by simp
  | y :: l, s => by
    have h1 := foldl_flen l (fput s y)
    have h2 := fput_len s y
    rw [List.foldl_cons, List.length_cons]
    omega
theorem fof_len (l : List Fa) : (fof l).length ≤ l.length := by have := foldl_flen l []; simpa [fof] using this
theorem filt_all {α : Type} (l : List α) : l.filter (fun _ => true) = l := by simp
theorem rises_nil : rises [] := .nil
noncomputable def less (a b : List Fa) : List Fa := a.filter (fun x => !decide (x ∈ b))
end Go.Proofs.YtdconhalfanclaaGreat.SL
namespace Go.Proofs.YtdconhalfanclaaGreat.SL
open Go
def relP (b : Nat) (l : List Fa) : PA := ⟨fun h => ∃ (A : Option Addr) (c : Nat), (cl b 0 [.slice A l.length c]).p h ∧ Sl tFa h A c l, fun hl ⟨A, c, h1, h2⟩ => ⟨A, c, PA.up _ hl h1, h2.up hl⟩⟩
theorem go_relP {C : Ctx} {k : List It} {E : Env} {Ps : List PA} {Os : List OA} {b : Nat} {l : List Fa} (h : relP b l ∈ Ps) (g : ∀ (A : Option Addr) (c : Nat), Go C k E (cl b 0 [.slice A l.length c] :: sl tFa A c l :: Ps) Os) : Go C k E Ps Os := fun a w hp ho hf hs hb => by
  obtain ⟨A, c, h1, h2⟩ := hs.ps _ h
  exact g A c a w hp ho hf ((hs.addp (q := sl tFa A c l) h2).addp h1) hb
theorem pt_cl {b ty : Nat} {cs : List Value} {hp h H : Heap} (hl : h.le H) (q : (pt b ty cs).p hp h) : (cl b 0 cs).p H := fun j v hj => by
  have q' : h b = some (.cells cs.toArray ty (0, 0)) := q
  refine cellH_le hl ?_
  simp only [cellH, q', Nat.zero_add]
  simpa using hj
theorem lend_rel {b : Nat} {l : List Fa} : ∀ (hp h1 H : Heap), hp.le H → h1.le H → (relO b l).p hp h1 → (relP b l).p H := fun hp h1 H l1 l2 ⟨A, c, q⟩ => by
  obtain ⟨g1, g2, x1, x2, _, d1, g3, g4, y1, _, _, ⟨cs, r, s⟩, _⟩ := (show Sep hp [pt b 127 [.slice A (l).length c], ol tFa 40 A c (l)] h1 from q)
  exact ⟨A, c, pt_cl (x1.tr l2) d1, sl_of_row r (y1.tr (x2.tr l2)) (s.up l1)⟩
theorem go_freeze_rel {C : Ctx} {k : List It} {E : Env} {Ps : List PA} {Os rr : List OA} {b : Nat} {l : List Fa} (h : Rem (relO b l) Os rr) (g : Go C k E (relP b l :: Ps) rr) : Go C k E Ps Os := go_freeze _ (relP b l) h lend_rel g
theorem binSearchP (A : Option Addr) (c : Nat) (l : List Fa) (q : Fa) (QA : Option Addr) (qc : Nat) (hr : rises l) (hn : l.length ≤ 50000000) :
    Spec Tryz.prog 113 #[.slice A l.length c, .agg #[.int .u32 q.p, .slice QA q.a.length qc], .func (.func 89) #[] #[]] [sl tFa A c l, sl tU QA qc q.a] [] (fun v Ps' Os' => v = .tuple #[.int .i64 (at_ l q : Int), .bool (decide (q ∈ l))] ∧ Ps' = [] ∧ Os' = []) := by
 refine zSp _ Tryz.func113 Tryz.ntmps113 (fun _ _ _ => ?_)
 refine zX 2 ?_
 intro b1
 refine zR 17 ?_
 refine zO (X := Nat × Nat) (fun x => [(9, .int .i64 (x.1 : Int)), (10, .int .i64 (x.2 : Int))]) [0, 2, 4, 8] (fun _ => []) (fun x => x.1 ≤ x.2 ∧ x.2 ≤ l.length ∧ (∀ y ∈ l.take x.1, cF y q < 0) ∧ ∀ y ∈ l.drop x.2, ¬ cF y q < 0) (fun x => x.2 - x.1) (0, l.length) ⟨by omega, by omega, by simp, by simp⟩ ?_
 intro ⟨i, j⟩ ⟨hij, hj, hlo, hhi⟩
 simp only at hij hj hlo hhi ⊢
 refine zD 7 ?_ ?_
 ·intro c1
  refine zR 7 ?_
  refine zi 20 ?_
  refine zR 1 ?_
  refine go_re 21 (.int .u64 ((i + j : Nat) : Int)) (by show some (Value.int _ _) = _; rw [wrap_u64 (by omega)]; rfl) ?_
  refine zR 1 ?_
  refine go_re 22 (.int .u64 (((i + j) / 2 : Nat) : Int)) (by show some (Value.int _ _) = _; rw [← half]) ?_
  refine zR 1 ?_
  refine zi 23 ?_
  obtain ⟨h, hh⟩ : ∃ h, h = (i + j) / 2 := ⟨_, rfl⟩
  rw [← hh]
  have hih : i ≤ h ∧ h < j := by omega
  refine zR 3 ?_
  refine go_elem_fa (xs := l) zM (h) (List.getElem?_eq_getElem (by omega)) (fun b0 o0 A0 c0 hA => ?_); cases hA
  refine zY 0 [1, 4, 7, 10, 14, 17, 18, 22] ?_
  refine zI 3 ?_
  refine zK 0 ?_
  refine zK 0 ?_
  refine zC3 0 (atomsCompare _ _ _ _ _ _ _ _) ?_
  refine zE 2 [0, 2, 4, 8, 9, 10, 11, 31] ?_
  refine zD' 0 ?_ ?_
  ·intro c2
   refine zR 5 ?_
   refine zz (i, h) ⟨by show i ≤ h; omega, by show h ≤ _; omega, hlo, rises_drop hr (by omega) c2⟩ (by show h - i < j - i; omega)
  intro c2
  refine zR 3 ?_
  refine zi 33 ?_
  refine zR 3 ?_
  refine zz (h + 1, j) ⟨by show h + 1 ≤ j; omega, hj, rises_take hr (by omega) c2, hhi⟩ (by show j - (h + 1) < j - i; omega)
 intro c1
 refine zR 2 ?_
 by_cases hin : i < l.length
 ·skip
  refine go_elem_fa (xs := l) zM (i) (List.getElem?_eq_getElem (by omega)) (fun b0 o0 A0 c0 hA => ?_); cases hA
  refine zY 0 [1, 4, 7, 10, 13, 16, 19, 22, 25, 29, 32, 33, 37, 40, 43, 46] ?_
  refine zR 4 ?_
  refine go_re 38 (.bool true) (by show some (Value.bool (decide _)) = _; rw [decide_eq_true (by omega)]) ?_
  refine zI 4 ?_
  refine zK 0 ?_
  refine zK 0 ?_
  refine zC3 0 (atomsCompare _ _ _ _ _ _ _ _) ?_
  refine zE 5 [6, 7] ?_
  refine zT 0 rfl ⟨by rw [bin_yes hr hin (by omega) hlo (by have := hhi; rwa [show j = i from by omega] at this)], rfl, rfl⟩
 ·skip
  refine zY 0 [1, 4, 7, 10, 13, 16, 19, 22, 25, 29, 32, 33, 37, 40, 43, 46] ?_
  refine zR 4 ?_
  refine go_re 38 (.bool false) (by show some (Value.bool (decide _)) = _; rw [decide_eq_false (by omega)]) ?_
  refine zJ 5 ?_
  refine zJ 0 ?_
  refine zE 6 [6, 7] ?_
  refine zT 0 rfl ⟨by rw [bin_no hr (by omega) hlo], rfl, rfl⟩
theorem relPlaceP (b : Nat) (l : List Fa) (q : Fa) (QA : Option Addr) (qc : Nat) (hr : rises l) (hn : l.length ≤ 50000000) :
    Spec Tryz.prog 85 #[.pointer (some ⟨b, 0, none⟩), .agg #[.int .u32 q.p, .slice QA q.a.length qc]] [relP b l, sl tU QA qc q.a] [] (fun v Ps' Os' => v = .tuple #[.int .i64 (at_ l q : Int), .bool (decide (q ∈ l))] ∧ Ps' = [] ∧ Os' = []) := by
 refine zSp _ Tryz.func85 Tryz.ntmps85 (fun _ _ _ => ?_)
 refine zX 2 ?_
 intro b1
 refine zDf 9 ?_
 refine zR 2 ?_
 refine go_relP (b := b) zM (fun A1 c1 => ?_)
 refine zY 0 [1, 4, 7, 11, 14, 15, 19, 22, 25, 28] ?_
 refine zK 3 ?_
 refine zK 0 ?_
 refine zC3 0 (binSearchP A1 c1 l q QA qc hr hn) ?_
 refine zE 5 [4, 5] ?_
 refine zT 0 rfl ⟨rfl, rfl, rfl⟩
theorem relHasP (b : Nat) (l : List Fa) (q : Fa) (QA : Option Addr) (qc : Nat) (hr : rises l) (hn : l.length ≤ 50000000) :
    Spec Tryz.prog 53 #[.pointer (some ⟨b, 0, none⟩), .agg #[.int .u32 q.p, .slice QA q.a.length qc]] [relP b l, sl tU QA qc q.a] [] (fun v Ps' Os' => v = .bool (decide (q ∈ l)) ∧ Ps' = [] ∧ Os' = []) := by
 refine zSp _ Tryz.func53 Tryz.ntmps53 (fun _ _ _ => ?_)
 refine zX 2 ?_
 intro b1
 refine zL 5 ?_
 refine zC3 0 (relPlaceP b l q QA qc hr hn) ?_
 refine zE 11 [4] ?_
 refine zT 0 rfl ⟨rfl, rfl, rfl⟩
theorem relLenP (b : Nat) (l : List Fa) :
    Spec Tryz.prog 38 #[.pointer (some ⟨b, 0, none⟩)] [relP b l] [] (fun v Ps' Os' => v = .int .i64 (l.length : Int) ∧ Ps' = [] ∧ Os' = []) := by
 refine zSp _ Tryz.func38 Tryz.ntmps38 (fun _ _ _ => ?_)
 refine zDf 10 ?_
 refine zR 2 ?_
 refine go_relP (b := b) zM (fun A1 c1 => ?_)
 refine zL 4 ?_
 refine zT 3 rfl ⟨rfl, rfl, rfl⟩
def relN (p : Option Addr) (l : List Fa) : PA := ⟨fun h => (p = none ∧ l = []) ∨ ∃ b, p = some ⟨b, 0, none⟩ ∧ (relP b l).p h, fun hl q => q.imp id fun ⟨b, e, r⟩ => ⟨b, e, (relP b l).up hl r⟩⟩
theorem relN_nil {h : Heap} : (relN none []).p h := .inl ⟨rfl, rfl⟩
theorem relN_some {b : Nat} {l : List Fa} {h : Heap} (q : (relP b l).p h) : (relN (some ⟨b, 0, none⟩) l).p h := .inr ⟨b, rfl, q⟩
theorem go_relN {C : Ctx} {k : List It} {E : Env} {Ps : List PA} {Os : List OA} {p : Option Addr} {l : List Fa} (h : relN p l ∈ Ps) (hp : 0 < l.length) (g : ∀ b, p = some ⟨b, 0, none⟩ → Go C k E (relP b l :: Ps) Os) : Go C k E Ps Os := fun a w hp' ho hf hs hb => by
  rcases hs.ps _ h with ⟨_, e⟩ | ⟨b, e, q⟩
  · subst e; simp at hp
  · exact g b e a w hp' ho hf (hs.addp q) hb
theorem Spec.onN {P : Program} {f : FuncId} {args : Option Addr → Array Value} {p : Option Addr} {l : List Fa} {Ps : List PA} {Os : List OA} {Q : Value → List PA → List OA → Prop}
    (s1 : l = [] → Spec P f (args none) Ps Os Q) (s2 : ∀ b, Spec P f (args (some ⟨b, 0, none⟩)) (relP b l :: Ps) Os Q) : Spec P f (args p) (relN p l :: Ps) Os Q :=
  ⟨(s2 0).fn, fun w hp ho hf hs a b c => by
    rcases hs.ps _ (.head _) with ⟨e1, e2⟩ | ⟨b', e, q⟩
    · subst e1; exact (s1 e2).calls w hp ho hf ⟨hs.inp, hs.ino, hs.dj, fun p hp => hs.ps p (.tail _ hp), hs.os⟩ a b c
    · subst e; exact (s2 b').calls w hp ho hf ⟨hs.inp, hs.ino, hs.dj, forall_cons q fun p hp => hs.ps p (.tail _ hp), hs.os⟩ a b c⟩
theorem relHas0P (q : Fa) (QA : Option Addr) (qc : Nat) :
    Spec Tryz.prog 53 #[.pointer none, .agg #[.int .u32 q.p, .slice QA q.a.length qc]] [sl tU QA qc q.a] [] (fun v Ps' Os' => v = .bool false ∧ Ps' = [] ∧ Os' = []) := by
 refine zSp _ Tryz.func53 Tryz.ntmps53 (fun _ _ _ => ?_)
 refine zX 2 ?_
 intro b1
 refine zL 5 ?_
 refine zC3 0 (relPlace0 q QA qc) ?_
 refine zE 11 [4] ?_
 refine zT 0 rfl ⟨rfl, rfl, rfl⟩
theorem relHasN (p : Option Addr) (l : List Fa) (q : Fa) (QA : Option Addr) (qc : Nat) (hr : rises l) (hn : l.length ≤ 50000000) : Spec Tryz.prog 53 #[.pointer p, .agg #[.int .u32 q.p, .slice QA q.a.length qc]] [relN p l, sl tU QA qc q.a] [] (fun v Ps' Os' => v = .bool (decide (q ∈ l)) ∧ Ps' = [] ∧ Os' = []) :=
  Spec.onN (args := fun p => #[.pointer p, .agg #[.int .u32 q.p, .slice QA q.a.length qc]]) (fun e => by subst e; simpa using relHas0P q QA qc) (fun b => relHasP b l q QA qc hr hn)
theorem relLenN (p : Option Addr) (l : List Fa) : Spec Tryz.prog 38 #[.pointer p] [relN p l] [] (fun v Ps' Os' => v = .int .i64 (l.length : Int) ∧ Ps' = [] ∧ Os' = []) :=
  Spec.onN (args := fun p => #[.pointer p]) (fun e => by subst e; exact relLen0) (fun b => relLenP b l)
abbrev Fx := Fa × Option Addr × Nat
def encX (x : Fx) : Value := .agg #[.int .u32 x.1.p, .slice x.2.1 x.1.a.length x.2.2]
def pxX (pre : List Fx) (x : Fx) : List PA := [PA.and (x.1.a.length ≤ 100000 ∧ pre.length ≤ 50000000) (sl tU x.2.1 x.2.2 x.1.a)]
def ptl (b t : Nat) (l : List Fa) : OA := OA.ex fun A : Option Addr => OA.ex fun c : Nat => OA.all [pt b t [.slice A l.length c], dl tFa 40 A c l]
theorem ptl_mk {b t : Nat} {A : Option Addr} {c : Nat} {l : List Fa} {hp h : Heap} (q : Sep hp [pt b t [.slice A l.length c], dl tFa 40 A c l] h) : (ptl b t l).p hp h := ⟨A, c, q⟩
theorem go_ptl {C : Ctx} {k : List It} {E : Env} {Ps : List PA} {Os : List OA} {b t : Nat} {l : List Fa} {rr : List OA} (h : Rem (ptl b t l) Os rr) (g : ∀ (A : Option Addr) (c : Nat), Go C k E Ps ([pt b t [.slice A l.length c], dl tFa 40 A c l] ++ rr)) : Go C k E Ps Os :=
  go_oex h fun A => go_oex .here fun c => go_oall .here (g A c)
def SoSpec (g : FuncId) (cap : Array Value) (p : Fa → Bool) (PsS : List PA) : Prop :=
  ∀ (x : Fa) (A : Option Addr) (c : Nat), Spec Tryz.prog g (Value.agg #[.int .u32 x.p, .slice A x.a.length c] :: cap.toList).toArray (sl tU A c x.a :: PsS) [] (fun v Ps' Os' => v = .bool (p x) ∧ Ps' = [] ∧ Os' = [])
theorem filter_next {l : List Fa} {p : Fa → Bool} {k : Nat} (hk : k < l.length) {D : List Fx} (h : D.map (fun y : Fx => y.1) = (l.take k).filter p) : (p l[k] = true → ∀ (A : Option Addr) (c : Nat), (D ++ [((l[k], A, c) : Fx)]).map (fun y : Fx => y.1) = (l.take (k + 1)).filter p) ∧ (p l[k] = false → D.map (fun y : Fx => y.1) = (l.take (k + 1)).filter p) := by
  rw [List.take_succ_eq_append_getElem hk, List.filter_append]
  constructor
  · intro e A c; simp [h, e]
  · intro e; simp [h, e]
theorem those1 (ly bR bS : Nat) (R : List Fx → OA) (hY : Yld Tryz.prog ly encX pxX R) (p0 : Option Addr) (l : List Fa) (g : FuncId) (cap : Array Value) (p : Fa → Bool) (PS : PA) (hso : SoSpec g cap p [PS]) (hn : l.length ≤ 50000000) (hb : ∀ x ∈ l, x.a.length ≤ 100000) :
    Spec Tryz.prog 140 #[.func (.yield ly) #[] #[], .pointer (some ⟨bR, 0, none⟩), .pointer (some ⟨bS, 0, none⟩)] [cl bR 0 [.pointer p0], cl bS 0 [.func (.func g) #[] cap], relN p0 l, PS] [R []] (fun v Ps' Os' => ∃ xs : List Fx, xs.map (·.1) = l.filter p ∧ v = .tuple #[] ∧ Ps' = [] ∧ Os' = [R xs]) := by
 refine zSp _ Tryz.func140 Tryz.ntmps140 (fun _ _ _ => ?_)
 refine zL 2 ?_
 refine zC3 0 (relLenN p0 l) ?_
 refine zR 3 ?_
 refine zO (X := Nat × List Fx) (fun x => [(8, .int .i64 (x.1 : Int))]) [0, 1, 2, 7] (fun x => [R x.2]) (fun x => x.1 ≤ l.length ∧ x.2.map (·.1) = (l.take x.1).filter p) (fun x => l.length - x.1) (0, []) ⟨by omega, by simp⟩ ?_
 intro ⟨k, D⟩ ⟨hk, hD⟩
 simp only at hk hD ⊢
 have hDl : D.length ≤ 50000000 := by
   have h1 := congrArg List.length hD
   have h2 := List.length_filter_le p (l.take k)
   rw [List.length_map] at h1
   rw [List.length_take] at h2
   omega
 refine zD' 5 ?_ ?_
 ·intro c1
  refine zT 1 rfl ⟨D, by rw [List.take_of_length_le (by omega)] at hD; exact hD, rfl, rfl, rfl⟩
 intro c1
 refine zR 9 ?_
 refine go_relN (p := p0) (l := l) zM (by omega) (fun b hb0 => ?_); subst hb0
 refine go_relP (b := b) zM (fun A1 c1 => ?_)
 refine go_elem_fa (xs := l) zM (k) (List.getElem?_eq_getElem (by omega)) (fun b0 o0 FA fc hA => ?_); cases hA
 refine zL 1 ?_
 refine zL 2 ?_
 refine zI 1 ?_
 refine zL 0 ?_
 refine zW 0 ?_
 intro b1
 refine zS 0 ?_
 refine zR 2 ?_
 refine go_regionY [false, false, false, false, false, false, true] rfl ?_
 refine zL 0 ?_
 refine zL 0 ?_
 refine zC3 0 (hso l[k] FA fc) ?_
 refine go_ent (PA.and (l[k].a.length ≤ 100000 ∧ D.length ≤ 50000000) (sl tU FA fc l[k].a)) (fun hh a => ⟨⟨hb _ (List.getElem_mem _), hDl⟩, a (sl tU FA fc l[k].a) zM⟩) ?_
 refine zG' 1 21 ?_ ?_
 ·intro g1
  (try simp only [dcs, ne_eq] at g1)
  refine zR 2 ?_
  refine go_skipY rfl rfl ?_
  refine zE 3 [0, 1, 2, 7, 8, 22, 23, 24, 25, 26] ?_
  refine zDf 0 ?_
  refine zR 6 ?_
  refine zi 8 ?_
  refine zz (k + 1, D) ⟨by show k + 1 ≤ _; omega, (filter_next (by omega) hD).2 g1⟩ (by show l.length - (k + 1) < l.length - k; omega)
 intro g1
 (try simp only [dcs, ne_eq] at g1)
 refine zL 1 ?_
 refine go_yield hY (D) ((l[k], FA, fc)) rfl rfl rfl rfl rfl zM zM ?_
 refine zE 3 [0, 1, 2, 7, 8, 22, 23, 24, 25, 26] ?_
 refine zDf 0 ?_
 refine zR 6 ?_
 refine zi 8 ?_
 refine go_back (k + 1, _) zA zM zM ⟨by show k + 1 ≤ _; omega, (filter_next (by omega) hD).1 g1 _ _⟩ (by show l.length - (k + 1) < l.length - k; omega)
theorem relThose (p0 : Option Addr) (g : FuncId) (cap : Array Value) :
    Spec Tryz.prog 106 #[.pointer p0, .func (.func g) #[] cap] [] [] (fun v Ps' Os' => ∃ bR bS, v = .func (.func 140) #[] #[.pointer (some ⟨bR, 0, none⟩), .pointer (some ⟨bS, 0, none⟩)] ∧ Ps' = [cl bR 0 [.pointer p0], cl bS 0 [.func (.func g) #[] cap]] ∧ Os' = []) := by
 refine zSp _ Tryz.func106 Tryz.ntmps106 (fun _ _ _ => ?_)
 refine zX 2 ?_
 intro bR
 refine zX 0 ?_
 intro bS
 refine go_freeze_pt (b := bR) zM ?_
 refine go_freeze_pt (b := bS) zM ?_
 refine zT 7 rfl ⟨bR, bS, rfl, rfl, rfl⟩
theorem relList_ (p0 : Option Addr) (l : List Fa) (g : FuncId) (cap : Array Value) (p : Fa → Bool) (PS : PA) (hso : SoSpec g cap p [PS]) (hn : l.length ≤ 50000000) (hb : ∀ x ∈ l, x.a.length ≤ 100000) :
    Spec Tryz.prog 73 #[.pointer p0, .func (.func g) #[] cap] [relN p0 l, PS] [] (fun v Ps' Os' => ∃ A c, v = .slice A (l.filter p).length c ∧ Ps' = [] ∧ Os' = [dl tFa 40 A c (l.filter p)]) := by
 refine zSp _ Tryz.func73 Tryz.ntmps73 (fun _ _ _ => ?_)
 refine zW 2 ?_
 intro br
 refine zC 6 (relThose p0 g cap) ?_
 rintro _ _ _ ⟨bR, bS, rfl, rfl, rfl⟩
 refine go_down_nil tFa 40 none ?_
 refine go_fold [pt br 23 [.slice none 0 0], dl tFa 40 none 0 []] (ptl br 23 []) zM (fun _ _ q => ⟨none, 0, q⟩) ?_
 refine zR 2 ?_
 refine go_range (α := Fx) (enc := encX) (Px := pxX) rfl rfl rfl (fun D => [ptl br 23 (D.map (fun y : Fx => y.1))]) ([]) ([]) zM zM ([cl bR 0 [.pointer p0], cl bS 0 [.func (.func g) #[] cap], relN p0 l, PS]) zM (fun xs => xs.map (·.1) = l.filter p) (fun ly R hY => (those1 ly bR bS R hY p0 l g cap p PS hso hn hb).imp fun v P' O' ⟨xs, h1, _, h2, h3⟩ => ⟨xs, h1, h2, h3⟩) (X := Nat) (fun x => [(5, .pointer (some ⟨x, 0, none⟩))]) [(4, .pointer (some ⟨br, 0, none⟩))] (fun pre x y => [pt y 40 [.int .u32 x.1.p, .slice x.2.1 x.1.a.length x.2.2], ptl br 23 (pre.map (fun y : Fx => y.1))]) (fun _ _ _ => True) (fun ly pre x w0' hp0' hf0' => ?_) (fun ly pre x y _ w0' hp0' hf0' => ?_) (fun D xs hdj hxs => ?_)
 ·skip
  refine zW 1 ?_
  intro b1
  refine zS 0 ?_
  refine zR 1 ?_
  refine go_back _ zA zM zM trivial (by decide)
 ·skip
  refine go_pand (fun hxa => ?_)
  refine go_ptl (b := br) zM (fun A1 c1 => ?_)
  refine zY 1 [2, 5, 6, 9, 12, 15] ?_
  refine zK 0 ?_
  refine zK 0 ?_
  refine go_call (relCopied x.1 x.2.1 x.2.2 hxa.1) rfl rfl (by rfl) rfl zM zM (fun _ v Ps' Os' hq => by obtain ⟨A', c', rfl, rfl, rfl⟩ := hq; exact satS zM zM) ?_
  rintro _ _ _ ⟨A', c', rfl, rfl, rfl⟩
  refine go_vo_fa (A := A') (c := c') x.1 zM ?_
  refine go_bslice Tk rfl rfl rfl rfl rfl rfl rfl rfl (fun _ _ => satA) ?_
  intro bn
  refine go_append1d (T := tFa) (xs := pre.map (fun y : Fx => y.1)) Tk x.1 rfl rfl rfl rfl rfl rfl rfl rfl rfl zM zM zM rfl (by rw [List.length_map]; omega) zF ?_
  intro A2 c2
  refine zS 0 ?_
  refine zR 1 ?_
  refine go_fold [pt br 23 [.slice A2 (pre.map (fun y : Fx => y.1) ++ [x.1]).length c2], dl tFa 40 A2 c2 (pre.map (fun y : Fx => y.1) ++ [x.1])] (ptl br 23 ((pre ++ [x]).map (fun y : Fx => y.1))) zM (fun _ _ q => by rw [List.map_append]; exact ptl_mk q) ?_
  refine zR 1 ?_
  refine go_back () trivial zM zM trivial (by decide)
 refine zR 2 ?_
 rw [hxs]
 refine go_ptl (b := br) zM (fun A1 c1 => ?_)
 refine zL 1 ?_
 refine zS 0 ?_
 refine zR 1 ?_
 refine go_retR ⟨rfl, rfl⟩ hdj _ _ (res1 (by rfl) (.cell rfl (rdv Tk rfl))) ⟨_, _, rfl, rfl, rfl⟩ zM zM
end Go.Proofs.YtdconhalfanclaaGreat.SL
namespace Go.Proofs.YtdconhalfanclaaGreat.SL
def tv (s : Int → Int) (t : Tm) : Int := if t.v then s t.n else t.n
def ap (s : Int → Int) (a : Am) : Fa := ⟨a.p, a.a.map (tv s)⟩
def Mt (a : Am) (f : Fa) : Prop := ∃ s, f = ap s a
noncomputable instance (a : Am) (f : Fa) : Decidable (Mt a f) := Classical.propDecidable _
noncomputable def mtch (a : Am) (f : Fa) : Bool := decide (Mt a f)
theorem Mt.pred {a : Am} {f : Fa} (h : Mt a f) : a.p = f.p ∧ a.a.length = f.a.length := by obtain ⟨s, rfl⟩ := h; simp [ap]
def fits (s : Int → Int) (a : List Tm) (f : List Int) (i : Nat) : Prop := ∀ k t n, k < i → a[k]? = some t → f[k]? = some n → tv s t = n
theorem fits_zero (s : Int → Int) (a : List Tm) (f : List Int) : fits s a f 0 := fun k t n h => by omega
theorem fits_next {s : Int → Int} {a : List Tm} {f : List Int} {i : Nat} (h1 : i < a.length) (h2 : i < f.length) : fits s a f (i + 1) ↔ fits s a f i ∧ tv s a[i] = f[i] := by
  constructor
  · intro h
    exact ⟨fun k t n hk => h k t n (by omega), h i _ _ (by omega) (List.getElem?_eq_getElem h1) (List.getElem?_eq_getElem h2)⟩
  · rintro ⟨h, g⟩ k t n hk ha hf
    rcases Nat.lt_or_ge k i with q | q
    · exact h k t n q ha hf
    · obtain rfl : k = i := by omega
      rw [List.getElem?_eq_getElem h1] at ha
      rw [List.getElem?_eq_getElem h2] at hf
      cases ha; cases hf; exact g
theorem Mt_of_fits {a : Am} {f : Fa} {s : Int → Int} (hp : a.p = f.p) (hl : a.a.length = f.a.length) (h : fits s a.a f.a a.a.length) : Mt a f := by
  refine ⟨s, ?_⟩
  obtain ⟨p, l⟩ := f
  simp only at hp hl h
  unfold ap
  rw [hp]
  congr 1
  apply List.ext_getElem?
  intro k
  rcases Nat.lt_or_ge k a.a.length with q | q
  · rw [List.getElem?_map, List.getElem?_eq_getElem q, List.getElem?_eq_getElem (by omega)]
    simp only [Option.map_some, Option.some.injEq]
    exact (h k _ _ q (List.getElem?_eq_getElem q) (List.getElem?_eq_getElem (by omega))).symm
  · rw [List.getElem?_eq_none (by omega), List.getElem?_eq_none (by simpa using q)]
theorem fits_of_Mt {a : Am} {s : Int → Int} (i : Nat) : fits s a.a (ap s a).a i := fun k t n hk ha hf => by
  simp only [ap, List.getElem?_map, ha, Option.map_some, Option.some.injEq] at hf
  exact hf
theorem mtch_no {a : Am} {f : Fa} (h : a.p = f.p → a.a.length = f.a.length → False) : mtch a f = false := by
  unfold mtch
  rw [decide_eq_false_iff_not]
  intro c; exact h c.pred.1 c.pred.2
def agrees (σ : Int → Option Int) (s : Int → Int) : Prop := ∀ n m, 0 ≤ n → σ n = some m → s n = m
def upd (σ : Int → Option Int) (n m : Int) : Int → Option Int := fun k => if k = n then some m else σ k
def inv (σ : Int → Option Int) (a : List Tm) (f : List Int) (i : Nat) : Prop := ∀ s, fits s a f i ↔ agrees σ s
theorem inv_zero (a : List Tm) (f : List Int) : inv (fun _ => none) a f 0 := fun s => ⟨fun _ n m _ h => (by cases h), fun _ => fits_zero s a f⟩
theorem inv_sym {σ : Int → Option Int} {a : List Tm} {f : List Int} {i : Nat} (h : inv σ a f i) (h1 : i < a.length) (h2 : i < f.length) (hv : a[i].v = false) (hn : a[i].n = f[i]) : inv σ a f (i + 1) := fun s => by
  rw [fits_next h1 h2, h s]
  simp [tv, hv, hn]
theorem inv_var {σ : Int → Option Int} {a : List Tm} {f : List Int} {i : Nat} (h : inv σ a f i) (h1 : i < a.length) (h2 : i < f.length) (hv : a[i].v = true) (h0 : 0 ≤ a[i].n) (hn : σ a[i].n = none ∨ σ a[i].n = some f[i]) : inv (upd σ a[i].n f[i]) a f (i + 1) := fun s => by
  rw [fits_next h1 h2, h s]
  simp only [tv, hv, if_true]
  constructor
  · rintro ⟨g1, g2⟩ n m hn0 e
    unfold upd at e
    split at e
    · rename_i q; cases e; rw [q]; exact g2
    · exact g1 n m hn0 e
  · intro g
    refine ⟨fun n m hn0 e => ?_, g _ _ h0 (by simp [upd])⟩
    by_cases q : n = a[i].n
    · subst q
      rcases hn with hn | hn
      · rw [hn] at e; cases e
      · rw [hn] at e; cases e
        exact g _ _ h0 (by simp [upd])
    · exact g n m hn0 (by simp [upd, q, e])
theorem mtch_sym_no {a : Am} {f : Fa} {i : Nat} (h1 : i < a.a.length) (h2 : i < f.a.length) (hv : a.a[i].v = false) (hn : ¬ a.a[i].n = f.a[i]) : mtch a f = false := by
  unfold mtch
  rw [decide_eq_false_iff_not]
  rintro ⟨s, rfl⟩
  have := fits_of_Mt (a := a) (s := s) (i + 1) i _ _ (by omega) (List.getElem?_eq_getElem h1) (List.getElem?_eq_getElem h2)
  simp only [tv, hv] at this
  exact hn (by simpa using this)
theorem mtch_var_no {σ : Int → Option Int} {a : Am} {f : Fa} {i : Nat} (h : inv σ a.a f.a i) (h1 : i < a.a.length) (h2 : i < f.a.length) (hv : a.a[i].v = true) (h0 : 0 ≤ a.a[i].n) (hn : ¬ (σ a.a[i].n = none ∨ σ a.a[i].n = some f.a[i])) : mtch a f = false := by
  unfold mtch
  rw [decide_eq_false_iff_not]
  rintro ⟨s, rfl⟩
  have g := fits_of_Mt (a := a) (s := s) (i + 1) i _ _ (by omega) (List.getElem?_eq_getElem h1) (List.getElem?_eq_getElem h2)
  have g2 := (h s).1 (fits_of_Mt i)
  simp only [tv, hv, if_true] at g
  cases e : σ a.a[i].n with
  | none => exact hn (.inl e)
  | some m =>
    have := g2 _ _ h0 e
    refine hn (.inr ?_)
    rw [e, ← g, this]
theorem mtch_yes {σ : Int → Option Int} {a : Am} {f : Fa} (hp : a.p = f.p) (hl : a.a.length = f.a.length) (h : inv σ a.a f.a a.a.length) : mtch a f = true := by
  unfold mtch
  rw [decide_eq_true_iff]
  exact Mt_of_fits hp hl ((h fun n => (σ n).getD 0).2 fun n m _ e => by simp [e])
def sig (few : List Int) (is : List Bool) (many : List Tm) (by_ : List Int) (n : Int) : Option Int :=
  if n < 16 then (if is[n.toNat]? = some true then few[n.toNat]? else none) else (many.findIdx? (· = ⟨true, n⟩)).bind (by_[·]?)
structure HeldOk (few : List Int) (is : List Bool) (many : List Tm) (by_ : List Int) (σ : Int → Option Int) (m : Nat) : Prop where
  l1 : few.length = 16
  l2 : is.length = 16
  l3 : many.length = by_.length
  l4 : many.length ≤ m
  so : ∀ n, 0 ≤ n → sig few is many by_ n = σ n
theorem held_small {few : List Int} {is : List Bool} {many : List Tm} {by_ : List Int} {σ : Int → Option Int} {m : Nat} (h : HeldOk few is many by_ σ m) {n : Nat} (hn : n < 16) (x : Int) :
    HeldOk (few.set n x) (is.set n true) many by_ (upd σ n x) m := by
  refine ⟨by simp [h.l1], by simp [h.l2], h.l3, h.l4, fun k hk => ?_⟩
  unfold sig upd
  have h1 := h.l1
  have h2 := h.l2
  by_cases e : k = n
  · subst e
    simp [show ((n : Int) < 16) by omega, h1, h2, hn]
  · have hs := h.so k hk
    unfold sig at hs
    rw [if_neg e, ← hs]
    by_cases hk16 : k < 16
    · rw [if_pos hk16, if_pos hk16, List.getElem?_set_ne (by omega), List.getElem?_set_ne (by omega)]
    · rw [if_neg hk16, if_neg hk16]
theorem findIdx_app {l : List Tm} {x y : Tm} : (l ++ [y]).findIdx? (· = x) = match l.findIdx? (· = x) with | some j => some j | none => if y = x then some l.length else none := by
  rw [List.findIdx?_append]
  cases e : l.findIdx? (· = x) with
  | some j => simp
  | none =>
    by_cases q : y = x
    · simp [q, List.findIdx?_cons]
    · simp [q, List.findIdx?_cons]
theorem findIdx_lt {l : List Tm} {x : Tm} {j : Nat} (h : l.findIdx? (· = x) = some j) : j < l.length := by
  rw [List.findIdx?_eq_some_iff_getElem] at h
  exact h.1
theorem held_new {few : List Int} {is : List Bool} {many : List Tm} {by_ : List Int} {σ : Int → Option Int} {m : Nat} (h : HeldOk few is many by_ σ m) {n : Int} (hn : ¬ n < 16) (hf : many.findIdx? (· = ⟨true, n⟩) = none) (x : Int) :
    HeldOk few is (many ++ [⟨true, n⟩]) (by_ ++ [x]) (upd σ n x) (m + 1) := by
  refine ⟨h.l1, h.l2, by simp [h.l3], by have := h.l4; simp; omega, fun k hk => ?_⟩
  have hs := h.so k hk
  unfold sig at hs ⊢
  unfold upd
  by_cases hk16 : k < 16
  · rw [if_pos hk16] at hs ⊢
    rw [if_neg (show ¬ k = n by omega), ← hs]
  · rw [if_neg hk16] at hs ⊢
    rw [findIdx_app]
    by_cases e : k = n
    · subst e
      rw [hf, if_pos rfl]
      simp [h.l3]
    · rw [if_neg e, ← hs]
      cases e2 : many.findIdx? (· = ⟨true, k⟩) with
      | none =>
        have : ¬ (⟨true, n⟩ : Tm) = ⟨true, k⟩ := fun q => e (by cases q; rfl)
        simp [this]
      | some j =>
        have := findIdx_lt e2
        have h3 := h.l3
        simp only [Option.bind_some]
        rw [List.getElem?_append_left (by omega)]
def idxT (l : List Tm) (x : Tm) : Int := match l.findIdx? (· = x) with | some j => (j : Int) | none => -1
theorem idxT_hit {l : List Tm} {x : Tm} {k : Nat} (hk : k < l.length) (hz : ∀ y ∈ l.take k, ¬ y = x) (e : l[k] = x) : l.findIdx? (· = x) = some k := by
  rw [List.findIdx?_eq_some_iff_getElem]
  refine ⟨hk, by simpa using e, fun j hj => ?_⟩
  have := hz l[j] (List.mem_take_iff_getElem.2 ⟨j, by omega, rfl⟩)
  simpa using this
theorem idxT_none {l : List Tm} {x : Tm} (hz : ∀ y ∈ l, ¬ y = x) : l.findIdx? (· = x) = none := by
  rw [List.findIdx?_eq_none_iff]
  intro y hy; simpa using hz y hy
theorem mem_take_next' {α : Type} {l : List α} {k : Nat} (hk : k < l.length) {P : α → Prop} (h : ∀ y ∈ l.take k, P y) (g : P l[k]) : ∀ y ∈ l.take (k + 1), P y := by
  rw [List.take_succ_eq_append_getElem hk]
  intro y hy
  rcases List.mem_append.1 hy with hy | hy
  · exact h y hy
  · simp at hy; subst hy; exact g
def hc (few : List Int) (is : List Bool) (tail : List Value) : List Value := few.map (Value.int .u32) ++ (is.map Value.bool ++ tail)
theorem hc_few {few : List Int} {is : List Bool} {tail : List Value} {j oo : Nat} (hj : j < few.length) (ho : oo = j) : (hc few is tail)[oo]? = some (.int .u32 few[j]) := by
  subst ho
  unfold hc
  rw [List.getElem?_append_left (by simpa using hj)]
  simp [hj]
theorem hc_is {few : List Int} {is : List Bool} {tail : List Value} {j oo : Nat} (hj : j < is.length) (ho : oo = few.length + j) : (hc few is tail)[oo]? = some (.bool is[j]) := by
  subst ho
  unfold hc
  rw [List.getElem?_append_right (by simp), List.getElem?_append_left (by simpa using hj)]
  simp [hj]
theorem hc_tail {few : List Int} {is : List Bool} {tail : List Value} {j oo : Nat} {v : Value} (hj : tail[j]? = some v) (ho : oo = few.length + (is.length + j)) : (hc few is tail)[oo]? = some v := by
  subst ho
  unfold hc
  rw [List.getElem?_append_right (by simp), List.getElem?_append_right (by simp)]
  simp [hj]
theorem putS_one {l : List Value} {n : Nat} {v : Value} (h : n < l.length) : putS n [v] l = l.set n v := by
  unfold putS
  rw [List.set_eq_take_append_cons_drop]
  simp [h]
theorem hc_put_few {few : List Int} {is : List Bool} {tail : List Value} {j oo : Nat} {x : Int} (hj : j < few.length) (ho : oo = j) : putL oo [.int .u32 x] (hc few is tail) = some (hc (few.set j x) is tail) := by
  subst ho
  have hl : (hc few is tail).length = few.length + (is.length + tail.length) := by simp [hc]
  rw [putL_put _ _ _ (by rw [hl]; simp; omega), putS_one (by rw [hl]; omega)]
  unfold hc
  rw [List.set_append_left _ _ (by simpa using hj), List.map_set]
theorem hc_put_is {few : List Int} {is : List Bool} {tail : List Value} {j oo : Nat} {x : Bool} (hj : j < is.length) (ho : oo = few.length + j) : putL oo [.bool x] (hc few is tail) = some (hc few (is.set j x) tail) := by
  subst ho
  have hl : (hc few is tail).length = few.length + (is.length + tail.length) := by simp [hc]
  rw [putL_put _ _ _ (by rw [hl]; simp; omega), putS_one (by rw [hl]; omega)]
  unfold hc
  rw [List.set_append_right _ _ (by simp), List.set_append_left _ _ (by simpa using hj), List.map_set]
  simp
theorem hc_put_tail {few : List Int} {is : List Bool} {tail : List Value} {j oo : Nat} {v : Value} (hj : j < tail.length) (ho : oo = few.length + (is.length + j)) : putL oo [v] (hc few is tail) = some (hc few is (tail.set j v)) := by
  subst ho
  have hl : (hc few is tail).length = few.length + (is.length + tail.length) := by simp [hc]
  rw [putL_put _ _ _ (by rw [hl]; simp; omega), putS_one (by rw [hl]; omega)]
  unfold hc
  rw [List.set_append_right _ _ (by simp), List.set_append_right _ _ (by simp)]
  simp
theorem tm_eq (x y : Tm) : (x.v == y.v && (decide (x.n = y.n) && true)) = decide (y = x) := by
  obtain ⟨a, b⟩ := x
  obtain ⟨c, d⟩ := y
  by_cases h1 : a = c
  · by_cases h2 : b = d
    · simp [h1, h2]
    · simp [h1, h2, Ne.symm h2, eq_comm]
  · simp [h1, Ne.symm h1]
theorem st_new {few : List Int} {is : List Bool} {σ : Int → Option Int} {j : Nat} {n : Int} (hj : j < 16) (f1 : few.length = 16) (f2 : is.length = 16) (f3 : (if is[j]? = some true then few[j]? else none) = σ j) (g : is[j] = false) :
    decide (σ (j : Int) = none ∨ σ (j : Int) = some n) = true := by
  rw [← f3, List.getElem?_eq_getElem (by omega), g]; simp
theorem st_old {few : List Int} {is : List Bool} {σ : Int → Option Int} {j : Nat} {n : Int} (hj : j < 16) (f1 : few.length = 16) (f2 : is.length = 16) (f3 : (if is[j]? = some true then few[j]? else none) = σ j) (g : is[j] = true) :
    decide (σ (j : Int) = none ∨ σ (j : Int) = some n) = decide (few[j] = n) := by
  rw [← f3, List.getElem?_eq_getElem (by omega), g, List.getElem?_eq_getElem (by omega)]; simp
theorem sig_big {few : List Int} {is : List Bool} {many : List Tm} {by_ : List Int} {σ : Int → Option Int} {m : Nat} (h : HeldOk few is many by_ σ m) {x : Int} (hx : 16 ≤ x) : (many.findIdx? (· = ⟨true, x⟩)).bind (by_[·]?) = σ x := by
  have := h.so x (by omega)
  rwa [sig, if_neg (by omega)] at this
theorem upd_same {σ : Int → Option Int} {x n : Int} (h : σ x = some n) : σ = upd σ x n := by
  funext k
  unfold upd
  split
  · rename_i e; rw [e, h]
  · rfl
theorem idx_yes {l : List Tm} {x : Tm} (h : 0 ≤ idxT l x) : ∃ k, l.findIdx? (· = x) = some k ∧ idxT l x = k ∧ k < l.length := by
  unfold idxT at h ⊢
  cases e : l.findIdx? (· = x) with
  | none => rw [e] at h; simp at h
  | some k => exact ⟨k, rfl, rfl, findIdx_lt e⟩
theorem idx_no {l : List Tm} {x : Tm} (h : ¬ 0 ≤ idxT l x) : l.findIdx? (· = x) = none := by
  unfold idxT at h
  cases e : l.findIdx? (· = x) with
  | none => rfl
  | some k => rw [e] at h; simp at h
theorem hc_put_a {few : List Int} {is : List Bool} {u v x : Value} {oo : Nat} (ho : oo = few.length + (is.length + 0)) : putL oo [x] (hc few is [u, v]) = some (hc few is [x, v]) := hc_put_tail (j := 0) (by simp) ho
theorem hc_put_b {few : List Int} {is : List Bool} {u v x : Value} {oo : Nat} (ho : oo = few.length + (is.length + 1)) : putL oo [x] (hc few is [u, v]) = some (hc few is [u, x]) := hc_put_tail (j := 1) (by simp) ho
theorem held_zero : HeldOk (List.replicate 16 0) (List.replicate 16 false) [] [] (fun _ => none) 0 := ⟨rfl, rfl, rfl, by simp, fun n hn => by
  unfold sig
  split
  · rw [List.getElem?_replicate]; split <;> simp
  · rfl⟩
theorem same_no {l m : List Fa} {k : Nat} (h1 : k < l.length) (h2 : k < m.length) (h : ¬ cmpF l[k].p l[k].a m[k].p m[k].a = 0) : ¬ l = m := fun e => by
  subst e; exact h (cmpF_zero.2 rfl)
theorem same_yes {α : Type} {l m : List α} {k : Nat} (hl : l.length = m.length) (hk : l.length ≤ k) (h : l.take k = m.take k) : l = m := by
  rwa [List.take_of_length_le hk, List.take_of_length_le (by omega)] at h
def lift (q : Fa) : Am := ⟨q.p, q.a.map fun n => ⟨false, n⟩⟩
theorem lift_len (q : Fa) : (lift q).a.length = q.a.length := by simp [lift]
end Go.Proofs.YtdconhalfanclaaGreat.SL
namespace Go.Proofs.YtdconhalfanclaaGreat.SL
open Go
theorem atomsKind (t : Tm) (n : Int) :
    Spec Tryz.prog 185 #[.agg #[.bool t.v, .int .u32 t.n], .int .u32 n] [] [] (fun v Ps' Os' => v = .int .i64 (if t.v then 2 else if t.n = n then 1 else 0) ∧ Ps' = [] ∧ Os' = []) := by
 refine zSp _ Tryz.func185 Tryz.ntmps185 (fun _ _ _ => ?_)
 refine zX 2 ?_
 intro b1
 refine zL 7 ?_
 refine zB 2 ?_ ?_
 ·intro h1
  (try simp only [dcs, ne_eq] at h1)
  refine zT 4 rfl ⟨by rw [h1]; rfl, rfl, rfl⟩
 intro h1
 (try simp only [dcs, ne_eq] at h1)
 refine zL 3 ?_
 refine zB 4 ?_ ?_
 ·intro h2
  (try simp only [dcs, ne_eq] at h2)
  refine zT 4 rfl ⟨by rw [h1, if_neg (by decide), if_pos h2], rfl, rfl⟩
 intro h2
 (try simp only [dcs, ne_eq] at h2)
 refine zT 6 rfl ⟨by rw [h1, if_neg (by decide), if_neg h2], rfl, rfl⟩
theorem indexTm (A : Option Addr) (c : Nat) (l : List Tm) (x : Tm) :
    Spec Tryz.prog 197 #[.slice A l.length c, .agg #[.bool x.v, .int .u32 x.n]] [sl tTm A c l] [] (fun v Ps' Os' => v = .int .i64 (idxT l x) ∧ Ps' = [] ∧ Os' = []) := by
 refine zSp _ Tryz.func197 Tryz.ntmps197 (fun _ _ _ => ?_)
 refine zR 1 ?_
 refine go_len (xs := l) zM (fun l0 m0 => ?_)
 refine zX 1 ?_
 intro b1
 refine zR 10 ?_
 refine zO (X := Nat) (fun k => [(8, .int .i64 (k : Int))]) [0, 3, 7] (fun _ => []) (fun k => k ≤ l.length ∧ ∀ y ∈ l.take k, ¬ y = x) (fun k => l.length - k) 0 ⟨by omega, by simp⟩ ?_
 intro k ⟨hk, hz⟩
 refine zD' 5 ?_ ?_
 ·intro c1
  refine zT 5 rfl ⟨by unfold idxT; rw [idxT_none (by rw [List.take_of_length_le (by omega)] at hz; exact hz)], rfl, rfl⟩
 intro c1
 refine zR 9 ?_
 refine go_elem_tm (xs := l) zM (k) (List.getElem?_eq_getElem (by omega)) (fun b o hA => ?_); cases hA
 refine zY 0 [4, 7, 10, 2, 14, 16] ?_
 refine zI 2 ?_
 refine zK 0 ?_
 refine zK 0 ?_
 refine go_val1 rfl (seq_val Tk rfl rfl rfl rfl (by rfl) rfl (by kernel_rfl) (by kernel_rfl)) rfl ?_
 refine go_re 16 (.bool (decide (l[k] = x))) (by show some (Value.bool _) = _; rw [tm_eq]) ?_
 refine zB 1 ?_ ?_
 ·intro c2
  (try simp only [dcs, ne_eq] at c2)
  refine zE 5 [4] ?_
  refine zT 0 rfl ⟨by unfold idxT; rw [idxT_hit (by omega) hz c2], rfl, rfl⟩
 intro c2
 (try simp only [dcs, ne_eq] at c2)
 refine zR 6 ?_
 refine zi 8 ?_
 refine zz (k + 1) ⟨by omega, mem_take_next' (by omega) hz c2⟩ (by omega)
def heldO (b : Nat) (σ : Int → Option Int) (m : Nat) : OA := OA.ex fun few : List Int => OA.ex fun is : List Bool => OA.ex fun many : List Tm => OA.ex fun by_ : List Int => OA.ex fun A1 : Option Addr => OA.ex fun c1 : Nat => OA.ex fun A2 : Option Addr => OA.ex fun c2 : Nat =>
  OA.and (HeldOk few is many by_ σ m) (OA.all [pt b 264 (hc few is [.slice A1 many.length c1, .slice A2 by_.length c2]), ol tTm 73 A1 c1 many, ol tU 26 A2 c2 by_])
theorem go_held {C : Ctx} {k : List It} {E : Env} {Ps : List PA} {Os : List OA} {b m : Nat} {σ : Int → Option Int} {rr : List OA} (h : Rem (heldO b σ m) Os rr)
    (g : ∀ few is many by_ A1 c1 A2 c2, HeldOk few is many by_ σ m → Go C k E Ps ([pt b 264 (hc few is [.slice A1 many.length c1, .slice A2 by_.length c2]), ol tTm 73 A1 c1 many, ol tU 26 A2 c2 by_] ++ rr)) : Go C k E Ps Os :=
  go_oex h fun few => go_oex .here fun is => go_oex .here fun many => go_oex .here fun by_ => go_oex .here fun A1 => go_oex .here fun c1 => go_oex .here fun A2 => go_oex .here fun c2 => go_oand .here fun hk => go_oall .here (g few is many by_ A1 c1 A2 c2 hk)
theorem heldO_mk {b m : Nat} {σ : Int → Option Int} {few : List Int} {is : List Bool} {many : List Tm} {by_ : List Int} {A1 : Option Addr} {c1 : Nat} {A2 : Option Addr} {c2 : Nat} (hk : HeldOk few is many by_ σ m) {hp h : Heap}
    (q : Sep hp [pt b 264 (hc few is [.slice A1 many.length c1, .slice A2 by_.length c2]), ol tTm 73 A1 c1 many, ol tU 26 A2 c2 by_] h) : (heldO b σ m).p hp h := ⟨few, is, many, by_, A1, c1, A2, c2, hk, q⟩
theorem held_more {few : List Int} {is : List Bool} {many : List Tm} {by_ : List Int} {σ : Int → Option Int} {m : Nat} (h : HeldOk few is many by_ σ m) : HeldOk few is many by_ σ (m + 1) := ⟨h.l1, h.l2, h.l3, by have := h.l4; omega, h.so⟩
theorem heldO_more {b m : Nat} {σ : Int → Option Int} {hp h : Heap} (q : (heldO b σ m).p hp h) : (heldO b σ (m + 1)).p hp h := by
  obtain ⟨few, is, many, by_, A1, c1, A2, c2, hk, q⟩ := q
  exact ⟨few, is, many, by_, A1, c1, A2, c2, held_more hk, q⟩
theorem standsSmall (b : Nat) (σ : Int → Option Int) (m : Nat) (j : Nat) (n : Int) (hj : j < 16) :
    Spec Tryz.prog 186 #[.pointer (some ⟨b, 0, none⟩), .agg #[.bool true, .int .u32 (j : Int)], .int .u32 n] [] [heldO b σ m] (fun v Ps' Os' => ∃ σ', v = .bool (decide (σ (j : Int) = none ∨ σ (j : Int) = some n)) ∧ ((σ (j : Int) = none ∨ σ (j : Int) = some n) → σ' = upd σ (j : Int) n) ∧ Ps' = [] ∧ Os' = [heldO b σ' (m + 1)]) := by
 refine zSp _ Tryz.func186 Tryz.ntmps186 (fun _ _ _ => ?_)
 refine zR 1 ?_
 refine go_held (b := b) zM (fun few is many by_ A1 c1 A2 c2 hk => ?_)
 have f1 := hk.l1
 have f2 := hk.l2
 have f3 := hk.so j (by omega)
 rw [sig, if_pos (by omega), Int.toNat_natCast] at f3
 refine zX 1 ?_
 intro bt
 refine go_freeze_pt (b := bt) zM ?_
 refine zL 6 ?_
 refine zR 1 ?_
 refine go_re 12 (.bool true) (by show some (Value.bool (decide _)) = _; rw [decide_eq_true (by omega)]) ?_
 refine zDt 1 ?_
 refine zY 1 [1, 4, 10, 13, 8, 16, 20, 22] ?_
 refine zK 4 ?_
 refine zIA 0 ?_
 refine go_val2a rfl (load_val (cs := [.int .u32 few[j]]) Tk rfl rfl rfl (at_one zM (hc_few (by omega) (by show 0 + 0 + j * 1 = j; omega))) rfl) rfl ?_
 refine zE 2 [0, 2, 4, 7] ?_
 refine zY 1 [1, 4, 10, 13, 8, 16, 20, 22] ?_
 refine zK 4 ?_
 refine zIA 0 ?_
 refine go_val2a rfl (load_val (cs := [.bool is[j]]) Tk rfl rfl rfl (at_one zM (hc_is (by omega) (by show 0 + 16 + j * 1 = _; omega))) rfl) rfl ?_
 refine zR 3 ?_
 refine go_draw ([cl bt 0 [.bool true, .int .u32 (j : Int)]]) ([]) [2, 5] (SL.pre [(1, 0), (1, 1), (1, 3), (1, 4), (1, 6), (1, 7), (1, 8), (1, 11), (1, 12), (2, 2), (1, 9), (2, 5), (0, 10), (1, 13), (0, 14)] .nil) mixed rfl (by kernel_rfl) ?_
 refine zK 9 ?_
 refine zIA 0 ?_
 refine zK 0 ?_
 refine go_store Tk rfl rfl rfl rfl rfl rfl zM rfl rfl (hc_put_few (j := j) (by omega) (by show 0 + 0 + j * 1 = j; omega)) (fun _ => satS zM zM) ?_
 refine zIA 0 ?_
 refine go_store Tk rfl rfl rfl rfl rfl rfl zM rfl rfl (hc_put_is (j := j) (by omega) (by show 0 + 16 + j * 1 = _; rw [List.length_set]; omega)) zF ?_
 refine zR 1 ?_
 refine go_fold [pt b 264 (hc (few.set j n) (is.set j true) [.slice A1 (many).length c1, .slice A2 (by_).length c2]), ol tTm 73 A1 c1 (many), ol tU 26 A2 c2 (by_)] (heldO b (upd σ j n) (m + 1)) zM (fun _ _ q => heldO_mk (held_more (held_small hk hj n)) q) ?_
 refine zE 0 [2, 7, 8] ?_
 refine zG 5 42 ?_ ?_
 ·intro g1
  (try simp only [dcs, ne_eq] at g1)
  refine zT 6 rfl ⟨upd σ j n, congrArg Value.bool (st_new hj f1 f2 f3 g1).symm, fun _ => rfl, rfl, rfl⟩
 intro g1
 (try simp only [dcs, ne_eq] at g1)
 refine zT 6 rfl ⟨upd σ j n, congrArg Value.bool (st_old hj f1 f2 f3 g1).symm, fun _ => rfl, rfl, rfl⟩
theorem standsBig (b : Nat) (σ : Int → Option Int) (m : Nat) (x n : Int) (hx : 16 ≤ x) (hm : m ≤ 1000000) :
    Spec Tryz.prog 186 #[.pointer (some ⟨b, 0, none⟩), .agg #[.bool true, .int .u32 x], .int .u32 n] [] [heldO b σ m] (fun v Ps' Os' => ∃ σ', v = .bool (decide (σ x = none ∨ σ x = some n)) ∧ ((σ x = none ∨ σ x = some n) → σ' = upd σ x n) ∧ Ps' = [] ∧ Os' = [heldO b σ' (m + 1)]) := by
 refine zSp _ Tryz.func186 Tryz.ntmps186 (fun _ _ _ => ?_)
 refine zR 1 ?_
 refine go_held (b := b) zM (fun few is many by_ A1 c1 A2 c2 hk => ?_)
 have f1 := hk.l1
 have f2 := hk.l2
 have f4 := hk.l4
 have f5 := hk.l3
 have f3 := sig_big hk hx
 refine zX 1 ?_
 intro bt
 refine go_freeze_pt (b := bt) zM ?_
 refine zL 6 ?_
 refine zR 1 ?_
 refine go_re 12 (.bool false) (by show some (Value.bool (decide _)) = _; rw [decide_eq_false (by omega)]) ?_
 refine zDf 1 ?_
 refine zY 3 [1, 4, 7, 11, 14, 15, 19] ?_
 refine zR 3 ?_
 refine go_val2a rfl (load_val (cs := [.slice A1 many.length c1]) Tk rfl rfl rfl (at_one zM (hc_tail (j := 0) rfl (by show 0 + 32 = _; omega))) rfl) rfl ?_
 refine zK 0 ?_
 refine zC3 0 ((indexTm A1 c1 many ⟨true, x⟩).ownl (e := 73)) ?_
 refine zE 7 [0, 2, 4, 9, 54] ?_
 refine zD 0 ?_ ?_
 ·intro hc1
  obtain ⟨k, e1, e2, e3⟩ := idx_yes hc1
  refine go_re 9 (.int .i64 (k : Int)) (by show some (Value.int _ _) = _; rw [e2]) ?_
  refine go_ol_addr (xs := by_) zM (by omega) (fun b2 hA => ?_); subst hA
  refine zR 5 ?_
  refine go_val0 rfl (load_val (cs := [.slice (some ⟨b2, 0, none⟩) by_.length c2]) Tk rfl rfl rfl (at_one zM (hc_tail (j := 1) rfl (by show 0 + 33 = _; omega))) rfl) rfl ?_
  refine zI 1 ?_
  refine go_val0 rfl (load_val (cs := [.int .u32 by_[k]]) Tk rfl rfl rfl (at_ol (fun y : Int => [.int .u32 y]) fc_int 0 (xs := by_) zM (List.getElem?_eq_getElem (by omega)) rfl) rfl) rfl ?_
  refine zR 4 ?_
  refine go_fold [pt b 264 (hc (few) (is) [.slice A1 (many).length c1, .slice (some ⟨b2, 0, none⟩) (by_).length c2]), ol tTm 73 A1 c1 (many), ol tU 26 (some ⟨b2, 0, none⟩) c2 (by_)] (heldO b (σ) (m + 1)) zM (fun _ _ q => heldO_mk (held_more hk) q) ?_
  refine zE 0 [6] ?_
  refine zT 0 rfl ⟨σ, by rw [show σ x = some by_[k] by rw [← f3, e1]; simp [List.getElem?_eq_getElem (show k < by_.length by omega)]]; simp, fun hs => upd_same (hs.resolve_left (by rw [← f3, e1]; simp [List.getElem?_eq_getElem (show k < by_.length by omega)])), rfl, rfl⟩
 intro hc1
 have e1 := idx_no hc1
 refine zR 2 ?_
 refine go_draw ([cl bt 0 [.bool true, .int .u32 x]]) ([pt b 264 (hc few is [.slice A1 many.length c1, .slice A2 by_.length c2])]) [5, 6, 12] (SL.pre [(1, 0), (1, 1), (1, 2), (1, 3), (1, 4), (1, 9), (1, 10), (1, 11), (1, 13), (2, 5), (2, 6), (2, 12)] (.two (SL.pre [(0, 7)] (.two (SL.pre [(0, 8), (0, 14), (0, 15), (1, 16), (1, 17), (0, 18), (1, 19), (1, 20), (0, 21)] .nil) (SL.pre [(0, 14), (0, 8), (0, 15), (1, 16), (1, 17), (0, 18), (1, 19), (1, 20), (0, 21)] .nil))) (SL.pre [(0, 14), (0, 7), (0, 8), (0, 15), (1, 16), (1, 17), (0, 18), (1, 19), (1, 20), (0, 21)] .nil))) mixed rfl (by kernel_rfl) ?_
 refine zR 9 ?_
 refine go_val2a rfl (load_val (cs := [.slice A1 many.length c1]) Tk rfl rfl rfl (at_one zM (hc_tail (j := 0) rfl (by show 0 + 32 = _; omega))) rfl) rfl ?_
 refine zK 0 ?_
 refine go_val2a rfl (load_val (cs := [.slice A2 by_.length c2]) Tk rfl rfl rfl (at_one zM (hc_tail (j := 1) rfl (by show 0 + 33 = _; omega))) rfl) rfl ?_
 refine go_two ?_ ?_
 ·skip
  refine go_bslice Tk rfl rfl rfl rfl rfl rfl rfl rfl (fun _ _ => satA) ?_
  intro bm
  refine go_two ?_ ?_
  ·skip
   refine go_append1 (T := tTm) (xs := many) Tk (⟨true, x⟩ : Tm) rfl rfl rfl rfl rfl rfl rfl rfl rfl zM zM rfl ent_tm (by omega) (fun _ _ _ => satS zM zM) ?_
   intro A3 c3
   refine go_bslice Tk rfl rfl rfl rfl rfl rfl rfl rfl (fun _ _ => satA) ?_
   intro bb
   refine go_append1 (T := tU) (xs := by_) Tk n rfl rfl rfl rfl rfl rfl rfl rfl rfl zM zM rfl ent_int (by omega) (fun _ _ _ => satS zM zM) ?_
   intro A4 c4
   refine zR 2 ?_
   refine go_store Tk rfl rfl rfl rfl rfl rfl zM rfl rfl (hc_put_a (by show 0 + 32 = _; omega)) zQ ?_
   refine zR 2 ?_
   refine go_store Tk rfl rfl rfl rfl rfl rfl zM rfl rfl (hc_put_b (by show 0 + 33 = _; omega)) zQ ?_
   refine zR 1 ?_
   refine go_fold [pt b 264 (hc (few) (is) [.slice A3 (many ++ [(⟨true, x⟩ : Tm)]).length c3, .slice A4 (by_ ++ [n]).length c4]), ol tTm 73 A3 c3 (many ++ [(⟨true, x⟩ : Tm)]), ol tU 26 A4 c4 (by_ ++ [n])] (heldO b (upd σ x n) (m + 1)) zM (fun _ _ q => heldO_mk (held_new hk (by omega) e1 n) q) ?_
   refine zE 0 [] ?_
   refine zT 4 rfl ⟨upd σ x n, by rw [show σ x = none by rw [← f3, e1]; rfl]; simp, fun _ => rfl, rfl, rfl⟩
  refine go_bslice Tk rfl rfl rfl rfl rfl rfl rfl rfl (fun _ _ => satA) ?_
  intro bb
  refine go_append1 (T := tTm) (xs := many) Tk (⟨true, x⟩ : Tm) rfl rfl rfl rfl rfl rfl rfl rfl rfl zM zM rfl ent_tm (by omega) (fun _ _ _ => satS zM zM) ?_
  intro A3 c3
  refine go_append1 (T := tU) (xs := by_) Tk n rfl rfl rfl rfl rfl rfl rfl rfl rfl zM zM rfl ent_int (by omega) (fun _ _ _ => satS zM zM) ?_
  intro A4 c4
  refine zR 2 ?_
  refine go_store Tk rfl rfl rfl rfl rfl rfl zM rfl rfl (hc_put_a (by show 0 + 32 = _; omega)) zQ ?_
  refine zR 2 ?_
  refine go_store Tk rfl rfl rfl rfl rfl rfl zM rfl rfl (hc_put_b (by show 0 + 33 = _; omega)) zQ ?_
  refine zR 1 ?_
  refine go_fold [pt b 264 (hc (few) (is) [.slice A3 (many ++ [(⟨true, x⟩ : Tm)]).length c3, .slice A4 (by_ ++ [n]).length c4]), ol tTm 73 A3 c3 (many ++ [(⟨true, x⟩ : Tm)]), ol tU 26 A4 c4 (by_ ++ [n])] (heldO b (upd σ x n) (m + 1)) zM (fun _ _ q => heldO_mk (held_new hk (by omega) e1 n) q) ?_
  refine zE 0 [] ?_
  refine zT 4 rfl ⟨upd σ x n, by rw [show σ x = none by rw [← f3, e1]; rfl]; simp, fun _ => rfl, rfl, rfl⟩
 refine go_bslice Tk rfl rfl rfl rfl rfl rfl rfl rfl (fun _ _ => satA) ?_
 intro bb
 refine go_bslice Tk rfl rfl rfl rfl rfl rfl rfl rfl (fun _ _ => satA) ?_
 intro bm
 refine go_append1 (T := tTm) (xs := many) Tk (⟨true, x⟩ : Tm) rfl rfl rfl rfl rfl rfl rfl rfl rfl zM zM rfl ent_tm (by omega) (fun _ _ _ => satS zM zM) ?_
 intro A3 c3
 refine go_append1 (T := tU) (xs := by_) Tk n rfl rfl rfl rfl rfl rfl rfl rfl rfl zM zM rfl ent_int (by omega) (fun _ _ _ => satS zM zM) ?_
 intro A4 c4
 refine zR 2 ?_
 refine go_store Tk rfl rfl rfl rfl rfl rfl zM rfl rfl (hc_put_a (by show 0 + 32 = _; omega)) zQ ?_
 refine zR 2 ?_
 refine go_store Tk rfl rfl rfl rfl rfl rfl zM rfl rfl (hc_put_b (by show 0 + 33 = _; omega)) zQ ?_
 refine zR 1 ?_
 refine go_fold [pt b 264 (hc (few) (is) [.slice A3 (many ++ [(⟨true, x⟩ : Tm)]).length c3, .slice A4 (by_ ++ [n]).length c4]), ol tTm 73 A3 c3 (many ++ [(⟨true, x⟩ : Tm)]), ol tU 26 A4 c4 (by_ ++ [n])] (heldO b (upd σ x n) (m + 1)) zM (fun _ _ q => heldO_mk (held_new hk (by omega) e1 n) q) ?_
 refine zE 0 [] ?_
 refine zT 4 rfl ⟨upd σ x n, by rw [show σ x = none by rw [← f3, e1]; rfl]; simp, fun _ => rfl, rfl, rfl⟩
theorem stands (b : Nat) (σ : Int → Option Int) (m : Nat) (t : Tm) (n : Int) (hv : t.v = true) (h0 : 0 ≤ t.n) (hm : m ≤ 1000000) : Spec Tryz.prog 186 #[.pointer (some ⟨b, 0, none⟩), .agg #[.bool t.v, .int .u32 t.n], .int .u32 n] [] [heldO b σ m]
    (fun v Ps' Os' => ∃ σ', v = .bool (decide (σ t.n = none ∨ σ t.n = some n)) ∧ ((σ t.n = none ∨ σ t.n = some n) → σ' = upd σ t.n n) ∧ Ps' = [] ∧ Os' = [heldO b σ' (m + 1)]) := by
  obtain ⟨v, x⟩ := t
  simp only at hv h0 ⊢
  subst hv
  by_cases hx : 16 ≤ x
  · exact standsBig b σ m x n hx hm
  · obtain ⟨j, rfl⟩ := Int.eq_ofNat_of_zero_le h0
    exact standsSmall b σ m j n (by omega)
theorem atomsMatch (a : Am) (AA : Option Addr) (ac : Nat) (f : Fa) (FA : Option Addr) (fc : Nat) (ha : ∀ t ∈ a.a, 0 ≤ t.n) (hn : a.a.length ≤ 1000000) :
    Spec Tryz.prog 163 #[.agg #[.int .u32 a.p, .slice AA a.a.length ac], .agg #[.int .u32 f.p, .slice FA f.a.length fc]] [sl tTm AA ac a.a, sl tU FA fc f.a] [] (fun v Ps' Os' => v = .bool (mtch a f) ∧ Ps' = [] ∧ Os' = []) := by
 refine zSp _ Tryz.func163 Tryz.ntmps163 (fun _ _ _ => ?_)
 refine zX 2 ?_
 intro b1
 refine zX 0 ?_
 intro b2
 refine zR 4 ?_
 refine go_len (xs := a.a) zM (fun la ma => ?_)
 refine go_len (xs := f.a) zM (fun lf mf => ?_)
 refine zL 2 ?_
 refine zL 1 ?_
 refine zG 2 14 ?_ ?_
 ·intro g1
  (try simp only [dcs, ne_eq] at g1)
  refine zE 9 [2, 3, 22] ?_
  refine zDt 0 ?_
  refine zT 4 rfl ⟨by rw [mtch_no (fun h _ => g1 h)], rfl, rfl⟩
 intro g1
 (try simp only [dcs, ne_eq] at g1)
 refine zL 1 ?_
 refine zL 2 ?_
 refine zE 4 [2, 3, 22] ?_
 refine zB 0 ?_ ?_
 ·intro g2
  (try simp only [dcs, ne_eq] at g2)
  refine zT 4 rfl ⟨by rw [mtch_no (fun _ h => g2 (by exact_mod_cast h))], rfl, rfl⟩
 intro g2
 (try simp only [dcs, ne_eq] at g2)
 refine zR 2 ?_
 have hl : a.a.length = f.a.length := by omega
 refine zW 1 ?_
 intro bh
 refine go_own_nil tTm 73 none ?_
 refine go_own_nil tU 26 none ?_
 refine go_fold [pt bh 264 (hc (List.replicate 16 0) (List.replicate 16 false) [.slice none 0 0, .slice none 0 0]), ol tTm 73 none 0 [], ol tU 26 none 0 []] (heldO bh (fun _ => none) 0) zM (fun _ _ q => heldO_mk held_zero q) ?_
 refine zL 5 ?_
 refine zR 4 ?_
 refine go_loop' (X := Nat × (Int → Option Int)) (fun x => [(26, .int .i64 (x.1 : Int))]) [(3, _), (5, _), (24, _), (25, _)] (fun x => [heldO bh x.2 x.1]) (fun x => x.1 ≤ a.a.length ∧ inv x.2 a.a f.a x.1) (fun x => a.a.length - x.1) ((0, fun _ => none)) zA zM ⟨by omega, inv_zero _ _⟩ ?_
 intro ⟨k, σ⟩ ⟨hk, hi⟩
 simp only at hk hi ⊢
 refine zD' 5 ?_ ?_
 ·intro c1
  refine zT 5 rfl ⟨by rw [mtch_yes g1 hl (by rw [show a.a.length = k by omega] at *; exact hi)], rfl, rfl⟩
 intro c1
 refine zR 4 ?_
 refine go_elem_tm (xs := a.a) zM (k) (List.getElem?_eq_getElem (by omega)) (fun b5 o5 hA => ?_); cases hA
 refine zI 2 ?_
 refine zL 0 ?_
 refine zW 0 ?_
 intro b3
 refine zS 1 ?_
 refine zR 7 ?_
 refine go_elem_int (xs := f.a) zM (k) (List.getElem?_eq_getElem (by omega)) (fun b6 o6 hA => ?_); cases hA
 refine zY 0 [4, 10, 2, 8, 13, 17, 18] ?_
 refine zK 2 ?_
 refine zK 0 ?_
 refine zI 0 ?_
 refine zK 0 ?_
 refine zC3 0 (atomsKind a.a[k] f.a[k]) ?_
 refine zR 9 ?_
 by_cases hv : a.a[k].v = true
 ·skip
  refine go_re 37 (.int .i64 2) (by show some (Value.int _ _) = _; rw [hv]; rfl) ?_
  refine zR 2 ?_
  refine go_re 39 (.bool true) rfl ?_
  refine zDt 2 ?_
  refine zY 2 [4, 10, 2, 8, 13, 17, 18, 22] ?_
  refine zK 2 ?_
  refine zK 0 ?_
  refine zI 0 ?_
  refine zK 0 ?_
  refine zC 0 (stands bh σ k a.a[k] f.a[k] hv (ha _ (List.getElem_mem _)) (by omega)) ?_
  rintro _ _ _ ⟨σ', rfl, hσ, rfl, rfl⟩
  refine zE 2 [3, 5, 24, 25, 26, 49] ?_
  refine zB 0 ?_ ?_
  ·intro c2
   (try simp only [dcs, ne_eq] at c2)
   simp only [not_or] at c2
   refine zT 4 rfl ⟨by rw [mtch_var_no hi (by omega) (by omega) hv (ha _ (List.getElem_mem _)) (by simpa using c2)], rfl, rfl⟩
  intro c2
  (try simp only [dcs, ne_eq] at c2)
  have c2 : σ a.a[k].n = none ∨ σ a.a[k].n = some f.a[k] := by simpa using c2
  rw [hσ c2]
  refine zDf 12 ?_
  refine zR 6 ?_
  refine zi 26 ?_
  refine zz (k + 1, upd σ a.a[k].n f.a[k]) ⟨by show k + 1 ≤ _; omega, inv_var hi (by omega) (by omega) hv (ha _ (List.getElem_mem _)) c2⟩ (by show a.a.length - (k + 1) < a.a.length - k; omega)
 ·skip
  have hv : a.a[k].v = false := by simpa using hv
  refine go_re 37 (.int .i64 (if a.a[k].n = f.a[k] then 1 else 0)) (by show some (Value.int _ _) = _; rw [hv]; rfl) ?_
  refine zR 2 ?_
  refine go_re 39 (.bool false) (by show some (Value.bool _) = _; split <;> rfl) ?_
  refine zDf 2 ?_
  refine zR 2 ?_
  by_cases hs : a.a[k].n = f.a[k]
  ·skip
   refine go_re 37 (.int .i64 1) (by show some (Value.int _ _) = _; rw [if_pos hs]) ?_
   refine zR 2 ?_
   refine go_re 41 (.bool true) rfl ?_
   refine zE 2 [3, 5, 8, 24, 25, 26, 40] ?_
   refine zDt 0 ?_
   refine zDf 11 ?_
   refine zR 6 ?_
   refine zi 26 ?_
   refine go_imp (heldO bh σ k) [heldO bh σ (k + 1)] zM (fun _ _ q => sep_one (heldO_more q)) ?_
   refine zz (k + 1, σ) ⟨by show k + 1 ≤ _; omega, inv_sym hi (by omega) (by omega) hv hs⟩ (by show a.a.length - (k + 1) < a.a.length - k; omega)
  ·skip
   refine go_re 37 (.int .i64 0) (by show some (Value.int _ _) = _; rw [if_neg hs]) ?_
   refine zR 2 ?_
   refine go_re 41 (.bool false) rfl ?_
   refine zE 2 [3, 5, 8, 24, 25, 26, 40] ?_
   refine zDf 0 ?_
   refine zDt 7 ?_
   refine zT 4 rfl ⟨by rw [mtch_sym_no (by omega) (by omega) hv hs], rfl, rfl⟩
def relD (b : Nat) (l : List Fa) : OA := OA.ex fun A : Option Addr => OA.ex fun c : Nat => OA.all [pt b 127 [.slice A l.length c], dl tFa 40 A c l]
theorem go_relD {C : Ctx} {k : List It} {E : Env} {Ps : List PA} {Os rr : List OA} {b : Nat} {l : List Fa} (h : Rem (relD b l) Os rr) (g : Go C k E Ps (relO b l :: rr)) : Go C k E Ps Os :=
  go_oex h fun A => go_oex .here fun c => go_oall .here (go_dl_ol (T := tFa) (A := A) (.there .here) (go_fold [pt b 127 [.slice A l.length c], ol tFa 40 A c l] (relO b l) (.cons (.there .here) (.cons .here .nil)) (fun _ _ q => relO_mk q) g))
theorem list1 (x : Fa) (A : Option Addr) (c : Nat) :
    Spec Tryz.prog 74 #[.agg #[.int .u32 x.p, .slice A x.a.length c]] [sl tU A c x.a, PA.tt] [] (fun v Ps' Os' => v = .bool true ∧ Ps' = [] ∧ Os' = []) := by
 refine zSp _ Tryz.func74 Tryz.ntmps74 (fun _ _ _ => ?_)
 refine zX 2 ?_
 intro b1
 refine zT 6 rfl ⟨rfl, rfl, rfl⟩
theorem find1 (bA : Nat) (a : Am) (AA : Option Addr) (ac : Nat) (ha : ∀ t ∈ a.a, 0 ≤ t.n) (hm : a.a.length ≤ 1000000) (x : Fa) (A : Option Addr) (c : Nat) :
    Spec Tryz.prog 162 #[.agg #[.int .u32 x.p, .slice A x.a.length c], .pointer (some ⟨bA, 0, none⟩)] [sl tU A c x.a, PA.all [cl bA 0 [.int .u32 a.p, .slice AA a.a.length ac], sl tTm AA ac a.a]] [] (fun v Ps' Os' => v = .bool (mtch a x) ∧ Ps' = [] ∧ Os' = []) := by
 refine zSp _ Tryz.func162 Tryz.ntmps162 (fun _ _ _ => ?_)
 refine zX 2 ?_
 intro b1
 refine zR 3 ?_
 refine go_pall (l := [_, _]) zM ?_
 refine zL 1 ?_
 refine zL 0 ?_
 refine zC3 0 (atomsMatch a AA ac x A c ha hm) ?_
 refine zT 2 rfl ⟨rfl, rfl, rfl⟩
theorem less1 (bS : Nat) (s : Option Addr) (ls : List Fa) (hr : rises ls) (hm : ls.length ≤ 50000000) (x : Fa) (A : Option Addr) (c : Nat) :
    Spec Tryz.prog 78 #[.agg #[.int .u32 x.p, .slice A x.a.length c], .pointer (some ⟨bS, 0, none⟩)] [sl tU A c x.a, PA.all [cl bS 0 [.pointer s], relN s ls]] [] (fun v Ps' Os' => v = .bool (!decide (x ∈ ls)) ∧ Ps' = [] ∧ Os' = []) := by
 refine zSp _ Tryz.func78 Tryz.ntmps78 (fun _ _ _ => ?_)
 refine zX 2 ?_
 intro b1
 refine zR 3 ?_
 refine go_pall (l := [_, _]) zM ?_
 refine zL 1 ?_
 refine zL 0 ?_
 refine zC3 0 (relHasN s ls x A c hr hm) ?_
 refine zT 3 rfl ⟨rfl, rfl, rfl⟩
theorem relListN (p0 : Option Addr) (l : List Fa) (hn : l.length ≤ 50000000) (hb : ∀ x ∈ l, x.a.length ≤ 100000) :
    Spec Tryz.prog 41 #[.pointer p0] [relN p0 l] [] (fun v Ps' Os' => ∃ A c, v = .slice A (l).length c ∧ Ps' = [] ∧ Os' = [dl tFa 40 A c (l)]) := by
 refine zSp _ Tryz.func41 Tryz.ntmps41 (fun _ _ _ => ?_)
 refine zR 5 ?_
 refine go_ent PA.tt (fun _ _ => trivial) ?_
 refine zC 2 (relList_ p0 l 74 #[] (fun _ => true) PA.tt (fun x A c => list1 x A c) hn hb) ?_
 rintro _ _ _ ⟨A, c, rfl, rfl, rfl⟩
 rw [filt_all]
 refine zT 2 rfl ⟨A, c, rfl, rfl, rfl⟩
theorem relFindN (p0 : Option Addr) (l : List Fa) (a : Am) (AA : Option Addr) (ac : Nat) (ha : ∀ t ∈ a.a, 0 ≤ t.n) (hm : a.a.length ≤ 1000000) (hn : l.length ≤ 50000000) (hb : ∀ x ∈ l, x.a.length ≤ 100000) :
    Spec Tryz.prog 136 #[.pointer p0, .agg #[.int .u32 a.p, .slice AA a.a.length ac]] [relN p0 l, sl tTm AA ac a.a] [] (fun v Ps' Os' => ∃ A c, v = .slice A (l.filter (mtch a)).length c ∧ Ps' = [] ∧ Os' = [dl tFa 40 A c (l.filter (mtch a))]) := by
 refine zSp _ Tryz.func136 Tryz.ntmps136 (fun _ _ _ => ?_)
 refine zX 2 ?_
 intro bA
 refine go_freeze_pt (b := bA) zM ?_
 refine go_mkall [cl bA 0 [.int .u32 a.p, .slice AA a.a.length ac], sl tTm AA ac a.a] zM ?_
 refine zC 6 (relList_ p0 l 162 #[.pointer (some ⟨bA, 0, none⟩)] (mtch a) (PA.all [cl bA 0 [.int .u32 a.p, .slice AA a.a.length ac], sl tTm AA ac a.a]) (fun x A c => find1 bA a AA ac ha hm x A c) hn hb) ?_
 rintro _ _ _ ⟨A, c, rfl, rfl, rfl⟩
 refine zT 2 rfl ⟨A, c, rfl, rfl, rfl⟩
theorem relLessN (p0 : Option Addr) (l : List Fa) (s : Option Addr) (ls : List Fa) (hr : rises ls) (hm : ls.length ≤ 50000000) (hn : l.length ≤ 50000000) (hb : ∀ x ∈ l, x.a.length ≤ 100000) :
    Spec Tryz.prog 46 #[.pointer p0, .pointer s] [relN p0 l, relN s ls] [] (fun v Ps' Os' => ∃ b, v = .pointer (some ⟨b, 0, none⟩) ∧ Ps' = [] ∧ Os' = [relD b (less l ls)]) := by
 refine zSp _ Tryz.func46 Tryz.ntmps46 (fun _ _ _ => ?_)
 refine zX 2 ?_
 intro bS
 refine go_freeze_pt (b := bS) zM ?_
 refine go_mkall [cl bS 0 [.pointer s], relN s ls] zM ?_
 refine zC 6 (relList_ p0 l 78 #[.pointer (some ⟨bS, 0, none⟩)] (fun x => !decide (x ∈ ls)) (PA.all [cl bS 0 [.pointer s], relN s ls]) (fun x A c => less1 bS s ls hr hm x A c) hn hb) ?_
 rintro _ _ _ ⟨A, c, rfl, rfl, rfl⟩
 rw [show l.filter (fun x => !decide (x ∈ ls)) = less l ls from rfl]
 refine zq 0 ?_
 refine zX 0 ?_
 intro bz
 refine zR 2 ?_
 refine go_fold [pt bz 127 [.slice A (less l ls).length c], dl tFa 40 A c (less l ls)] (relD bz (less l ls)) zM (fun _ _ q => ⟨A, c, q⟩) ?_
 refine zT 0 rfl ⟨bz, rfl, rfl, rfl⟩
theorem relOf (A : Option Addr) (c : Nat) (l : List Fa) (hn : l.length ≤ 50000000) (hb : ∀ x ∈ l, x.a.length ≤ 100000) :
    Spec Tryz.prog 37 #[.slice A l.length c] [sl tFa A c l] [] (fun v Ps' Os' => ∃ b, v = .pointer (some ⟨b, 0, none⟩) ∧ Ps' = [] ∧ Os' = [relO b (fof l)]) := by
 refine zSp _ Tryz.func37 Tryz.ntmps37 (fun _ _ _ => ?_)
 refine zR 1 ?_
 refine go_len (xs := l) zM (fun l0 m0 => ?_)
 refine zC 5 relNew ?_
 rintro _ _ _ ⟨br, rfl, rfl, rfl⟩
 refine zR 16 ?_
 refine zO (X := Nat) (fun k => [(12, .int .i64 (k : Int))]) [3, 4, 10, 11] (fun k => [relO br (fof (l.take k))]) (fun k => k ≤ l.length) (fun k => l.length - k) 0 (by omega) ?_
 intro k hk
 refine zD' 5 ?_ ?_
 ·intro c1
  refine zR 2 ?_
  rw [List.take_of_length_le (show l.length ≤ k by omega)]
  refine zT 4 rfl ⟨br, rfl, rfl, rfl⟩
 intro c1
 refine zR 4 ?_
 refine go_elem_fa (xs := l) zM (k) (List.getElem?_eq_getElem (by omega)) (fun b0 o0 A0 c0 hA => ?_); cases hA
 refine zI 1 ?_
 refine zL 0 ?_
 refine zW 0 ?_
 intro b1
 refine zS 0 ?_
 refine zL 3 ?_
 refine zC3 0 (relPut br (fof (l.take k)) l[k] A0 c0 (rises_fof _) (by have := fof_len (l.take k); rw [List.length_take] at this; omega) (hb _ (List.getElem_mem _))) ?_
 refine zR 6 ?_
 refine zi 12 ?_
 rw [← fof_next (by omega)]
 refine zz (k + 1) (by omega) (by omega)
end Go.Proofs.YtdconhalfanclaaGreat.SL
namespace Go.Proofs.YtdconhalfanclaaGreat.SL
theorem mem_less {a b : List Fa} {x : Fa} : x ∈ less a b ↔ x ∈ a ∧ ¬ x ∈ b := by simp [less]
theorem less_len (a b : List Fa) : (less a b).length ≤ a.length := List.length_filter_le _ _
theorem less_nil (a : List Fa) : less a [] = a := by simp [less]
theorem less_self (a : List Fa) : less a a = [] := by
  unfold less; rw [List.filter_eq_nil_iff]; intro x hx; simp [hx]
theorem rises_nodup {l : List Fa} (h : rises l) : l.Nodup := List.Pairwise.imp (fun {a b} g e => by subst e; rw [cF_zero.2 rfl] at g; omega) h
structure Fine (l : List Fa) : Prop where
  r : rises l
  n : l.length ≤ 1000000
  b : ∀ x ∈ l, x.a.length ≤ 100000
theorem nodup_len : ∀ {a b : List Fa}, a.Nodup → (∀ x ∈ a, x ∈ b) → a.length ≤ b.length
  | [], _, _, _ => by simp
  | x :: a, b, hn, h => by
    rw [List.nodup_cons] at hn
    have hx := h x (.head _)
    have h1 := nodup_len (a := a) (b := b.erase x) hn.2 fun y hy => (List.mem_erase_of_ne (by rintro rfl; exact hn.1 hy)).2 (h y (.tail _ hy))
    rw [List.length_erase_of_mem hx] at h1
    have : 0 < b.length := List.length_pos_of_mem hx
    simp only [List.length_cons]; omega
theorem sub_len {a b : List Fa} (ha : rises a) (h : ∀ x ∈ a, x ∈ b) : a.length ≤ b.length := nodup_len (rises_nodup ha) h
theorem fof_all {l s : List Fa} (h : rises s) (h1 : ∀ x ∈ s, x ∈ l) (h2 : ∀ x ∈ l, x ∈ s) : s = fof l := rises_ext h (rises_fof l) fun x => ⟨fun hx => mem_fof.2 (h1 x hx), fun hx => h2 x (mem_fof.1 hx)⟩
section
variable {C : Ctx} {k : List It} {E : Env} {Ps : List PA} {Os : List OA}
end
section
variable {C : Ctx} {k : List It} {E : Env} {Ps : List PA} {Os : List OA}
variable {o : Oper} {ops : Array Oper} {S : World → Prop} {r : Pl} {f : Bool}
end
structure St where
  c : Bool
  f : Fa
structure Small (s : List Fa) (n : Nat) : Prop where
  r : rises s
  n : s.length ≤ n
  b : ∀ x ∈ s, x.a.length ≤ 20
structure Fy where
  f : Fa
  A : Option Addr
  c : Nat
def fcY (x : Fy) : List Value := [.int .u32 x.f.p, .slice x.A x.f.a.length x.c]
def tFy : Ty Fy := ⟨2, fun h x cs => cs = fcY x ∧ Sl tU h x.A x.c x.f.a, fun ⟨e, _⟩ => by subst e; rfl, fun ⟨e, _⟩ => by subst e; rfl, fun hl ⟨e, s⟩ => ⟨e, s.up hl⟩⟩
theorem fcY_eq : ∀ (h : Heap) (x : Fy) (cs : List Value), tFy.rep h x cs → cs = fcY x := fun _ _ _ h => h.1
theorem Reps.toY {h : Heap} : ∀ {l : List Fa} {cs : List Value}, Reps tFa h l cs → ∃ xs : List Fy, xs.map (fun x : Fy => x.f) = l ∧ Reps tFy h xs cs
  | [], cs, e => ⟨[], rfl, e⟩
  | x :: l, _, ⟨a, b, e, r, s⟩ => by
    obtain ⟨A, c, rfl, sx⟩ := tFa_open r
    obtain ⟨xs, h1, h2⟩ := Reps.toY s
    exact ⟨⟨x, A, c⟩ :: xs, by simp [h1], _, _, e, ⟨rfl, sx⟩, h2⟩
theorem Reps.ofY {h : Heap} : ∀ {xs : List Fy} {cs : List Value}, Reps tFy h xs cs → Reps tFa h (xs.map fun x : Fy => x.f) cs
  | [], _, e => e
  | x :: xs, _, ⟨a, b, e, ⟨r, sx⟩, s⟩ => ⟨a, b, e, by rw [r]; exact tFa_mk sx, s.ofY⟩
section
variable {C : Ctx} {k : List It} {E : Env} {Ps : List PA} {Os : List OA}
theorem go_toY {e : Nat} {A : Option Addr} {c : Nat} {l : List Fa} {rr : List OA} (h : Rem (ol tFa e A c l) Os rr) (g : ∀ xs : List Fy, xs.map (fun x : Fy => x.f) = l → xs.length = l.length → Go C k E Ps (ol tFy e A c xs :: rr)) : Go C k E Ps Os := fun a w hp ho hf hs hb => by
  obtain ⟨g1, g2, i, b, d, ⟨cs, r, s⟩, sp⟩ := Sep.rem h hs.os
  obtain ⟨xs, h1, h2⟩ := s.toY
  have hl : xs.length = l.length := by rw [← h1]; simp
  exact g xs h1 hl a w hp ho hf ⟨hs.inp, hs.ino, hs.dj, hs.ps, g1, g2, i, b, d, ⟨cs, by rw [hl]; exact r, h2⟩, sp⟩ hb
theorem go_ofY {e : Nat} {A : Option Addr} {c : Nat} {xs : List Fy} {rr : List OA} (h : Rem (ol tFy e A c xs) Os rr) (g : Go C k E Ps (ol tFa e A c (xs.map fun x : Fy => x.f) :: rr)) : Go C k E Ps Os := fun a w hp ho hf hs hb => by
  obtain ⟨g1, g2, i, b, d, ⟨cs, r, s⟩, sp⟩ := Sep.rem h hs.os
  exact g a w hp ho hf ⟨hs.inp, hs.ino, hs.dj, hs.ps, g1, g2, i, b, d, ⟨cs, by rw [List.length_map]; exact r, s.ofY⟩, sp⟩ hb
theorem go_atY {e : Nat} {A : Option Addr} {c : Nat} {xs : List Fy} {rr : List OA} (h : Rem (ol tFy e A c xs) Os rr) (j : Nat) {x : Fy} (hj : xs[j]? = some x) (g : Go C k E (sl tU x.A x.c x.f.a :: Ps) Os) : Go C k E Ps Os := fun a w hp ho hf hs hb => by
  obtain ⟨g1, g2, i, b, d, ⟨cs, r, s⟩, sp⟩ := Sep.rem h hs.os
  obtain ⟨ds, ⟨_, h1⟩, _⟩ := s.at j x hj
  exact g a w hp ho hf (hs.addp (q := sl tU x.A x.c x.f.a) h1) hb
theorem ent_Y {x : Fy} (h : sl tU x.A x.c x.f.a ∈ Ps) : Ent Ps (rp tFy x (fcY x)) := fun hp a => ⟨rfl, a _ h⟩
end
theorem getF {xs : List Fy} {l : List Fa} (h : xs.map (fun x : Fy => x.f) = l) {j : Nat} (hj : j < xs.length) (hj' : j < l.length) : xs[j].f = l[j] := by subst h; simp
theorem set_mid {α : Type} {l : List α} {n : Nat} {w z : α} (hn : n ≤ l.length) : (l.take n ++ w :: l.drop n).set n z = l.take n ++ z :: l.drop n := by
  rw [List.set_append_right _ _ (by simp; omega)]
  simp [Nat.min_eq_left hn]
theorem mid_back {α : Type} {l : List α} {n : Nat} (h0 : 0 < n) (hn : n - 1 < l.length) : l.take n ++ l[n - 1] :: l.drop n = l.take (n - 1) ++ l[n - 1] :: l.drop (n - 1) := by
  have h1 : l.take n = l.take (n - 1) ++ [l[n - 1]] := by
    have := List.take_succ_eq_append_getElem hn
    rwa [show n - 1 + 1 = n by omega] at this
  have h2 : l.drop (n - 1) = l[n - 1] :: l.drop n := by rw [List.drop_eq_getElem_cons hn, show n - 1 + 1 = n by omega]
  conv => lhs; rw [h1]
  rw [h2, List.append_assoc]; rfl
theorem mid_get {α : Type} {l : List α} {n j : Nat} {w : α} (hn : n ≤ l.length) (hj : j < n) : (l.take n ++ w :: l.drop n)[j]? = some (l[j]'(by omega)) := by
  rw [List.getElem?_append_left (by simp; omega), List.getElem?_take, if_pos hj, List.getElem?_eq_getElem (by omega)]
theorem mid_len {α : Type} {l : List α} {n : Nat} {w : α} (hn : n ≤ l.length) : (l.take n ++ w :: l.drop n).length = l.length + 1 := by simp; omega
theorem fput_at {l : List Fa} {q : Fa} (hq : ¬ q ∈ l) (hr : rises l) {n : Nat} (hn : n ≤ l.length) (h1 : ∀ x ∈ l.drop n, 0 < cF x q) (h2 : ∀ (h : 0 < n), ¬ 0 < cF (l[n - 1]'(by omega)) q) : l.take n ++ q :: l.drop n = fput l q := by
  have : at_ l q = n := by
    refine at_of hn ?_ (fun x hx c => by have := h1 x hx; omega)
    rcases Nat.eq_zero_or_pos n with rfl | h0
    · intro x hx; simp at hx
    · have h3 : cF (l[n - 1]'(by omega)) q < 0 := by
        have := h2 h0
        have h4 : cF (l[n - 1]'(by omega)) q ≠ 0 := fun e => hq (by rw [← cF_zero.1 e]; exact List.getElem_mem _)
        omega
      have := rises_take hr (k := n - 1) (by omega) h3
      rwa [show n - 1 + 1 = n by omega] at this
  rw [fput_no hq, this]
def dd : List Fa → List Fa
  | [] => []
  | [x] => [x]
  | x :: y :: l => if x = y then dd (y :: l) else x :: dd (y :: l)
def idxF (p : Fa → Bool) (l : List Fa) : Int := match l.findIdx? p with | some j => (j : Int) | none => -1
theorem idxF_hit {p : Fa → Bool} {l : List Fa} {k : Nat} (hk : k < l.length) (hz : ∀ y ∈ l.take k, p y = false) (e : p l[k] = true) : l.findIdx? p = some k := by
  rw [List.findIdx?_eq_some_iff_getElem]
  refine ⟨hk, e, fun j hj => ?_⟩
  have := hz l[j] (List.mem_take_iff_getElem.2 ⟨j, by omega, rfl⟩)
  simp [this]
theorem idxF_none {p : Fa → Bool} {l : List Fa} (hz : ∀ y ∈ l, p y = false) : l.findIdx? p = none := by
  rw [List.findIdx?_eq_none_iff]
  intro y hy; simpa using hz y hy
theorem idxF_any (p : Fa → Bool) (l : List Fa) : l.any p = decide (0 ≤ idxF p l) := by
  unfold idxF
  cases e : l.findIdx? p with
  | none =>
    rw [List.findIdx?_eq_none_iff] at e
    have : l.any p = false := by rw [List.any_eq_false]; intro x hx; simpa using e x hx
    rw [this]; rfl
  | some j =>
    rw [List.findIdx?_eq_some_iff_getElem] at e
    obtain ⟨hj, h, _⟩ := e
    have : l.any p = true := List.any_eq_true.2 ⟨_, List.getElem_mem hj, h⟩
    rw [this]; simp
theorem any_mem (y : Fa) (l : List Fa) : decide (y ∈ l) = l.any (fun x => decide (x = y)) := by
  rw [Bool.eq_iff_iff, decide_eq_true_iff, List.any_eq_true]
  constructor
  · intro h; exact ⟨y, h, by simp⟩
  · rintro ⟨x, h, e⟩; rw [decide_eq_true_iff] at e; exact e ▸ h
structure Cmp (l : List Fa) (xs ys : List Fy) (k m i : Nat) : Prop where
  len : ys.length = l.length
  lo : k ≤ m
  hi : m + 1 ≤ k + i
  i1 : 1 ≤ i
  i2 : i ≤ l.length - k
  kept : (ys.take m).map (fun x : Fy => x.f) = dd (l.take (k + i))
  rest : ys.drop (k + i - 1) = xs.drop (k + i - 1)
theorem not_next {l : List Fa} {q : Fa} {k : Nat} (hk : k < l.length) (h : ¬ q ∈ l.take k) (g : ¬ cmpF l[k].p l[k].a q.p q.a = 0) : ¬ q ∈ l.take (k + 1) := by
  rw [List.take_succ_eq_append_getElem hk, List.mem_append, List.mem_singleton]
  rintro (c | c)
  · exact h c
  · exact g (cmpF_zero.2 c.symm)
theorem split_last {l : List Fa} {q : Fa} {ys : List Fy} (h : ys.map (fun x : Fy => x.f) = l ++ [q]) : ∃ xs w, ys = xs ++ [w] ∧ xs.map (fun x : Fy => x.f) = l ∧ w.f = q := by
  have hl : ys.length = l.length + 1 := by have := congrArg List.length h; simpa using this
  have e : ys = ys.take l.length ++ [ys[l.length]] := by rw [← List.take_succ_eq_append_getElem (by omega), List.take_of_length_le (by omega)]
  refine ⟨_, _, e, ?_⟩
  rw [e, List.map_append] at h
  have := List.append_inj' h (by simp)
  exact ⟨this.1, by simpa using this.2⟩
theorem drop_more {l : List Fa} {q : Fa} {n : Nat} (h0 : 0 < n) (hn : n - 1 < l.length) (hz : ∀ y ∈ l.drop n, 0 < cF y q) (h : 0 < cF l[n - 1] q) : ∀ y ∈ l.drop (n - 1), 0 < cF y q := by
  rw [List.drop_eq_getElem_cons hn, show n - 1 + 1 = n by omega]
  intro y hy
  rcases List.mem_cons.1 hy with rfl | hy
  · exact h
  · exact hz y hy
theorem mid_map {l : List Fa} {xs : List Fy} {n : Nat} {w : Fy} (hx : xs.map (fun x : Fy => x.f) = l) : (xs.take n ++ w :: xs.drop n).map (fun x : Fy => x.f) = l.take n ++ w.f :: l.drop n := by
  subst hx; simp
def kv (e : MapEntry) : Value × Value := (e.key, e.val)
def MapIs (kk : IntKind) (es : List MapEntry) (m : List (Int × Value)) : Prop := es.map kv = m.map fun x => (Value.int kk x.1, x.2)
def mapO (b : Nat) (kk : IntKind) (m : List (Int × Value)) : OA := ⟨fun _ h => ∃ es clock, h b = some (.map es clock) ∧ MapIs kk es.toList m, fun _ q => q⟩
def mget (m : List (Int × Value)) (k : Int) : Option Value := (m.find? fun x => x.1 == k).map (·.2)
def mset (m : List (Int × Value)) (k : Int) (v : Value) : List (Int × Value) := match m.findIdx? (fun x => x.1 == k) with
  | some i => m.modify i fun x => (x.1, v)
  | none => m ++ [(k, v)]
theorem mget_mset (m : List (Int × Value)) (k : Int) (v : Value) (j : Int) : mget (mset m k v) j = if j = k then some v else mget m j := by
  unfold mset
  cases e : m.findIdx? (fun x => x.1 == k) with
  | none =>
    rw [List.findIdx?_eq_none_iff] at e
    unfold mget
    rw [List.find?_append]
    by_cases h : j = k
    · subst h
      have : m.find? (fun x => x.1 == j) = none := by rw [List.find?_eq_none]; intro x hx; simpa using e x hx
      rw [this]; simp
    · rw [if_neg h]
      cases m.find? (fun x => x.1 == j) with
      | none => simp [List.find?_cons, Ne.symm h]
      | some x => simp
  | some i =>
    rw [List.findIdx?_eq_some_iff_getElem] at e
    obtain ⟨hi, h1, h2⟩ := e
    have key : ∀ (m : List (Int × Value)) (i : Nat) (hi : i < m.length), (m[i].1 == k) = true → (∀ j (hj : j < i), (m[j].1 == k) = false) → mget (m.modify i fun x => (x.1, v)) j = if j = k then some v else mget m j := by
      intro m
      induction m with
      | nil => intro i hi; simp at hi
      | cons y m ih =>
        intro i hi h1 h2
        cases i with
        | zero =>
          simp only [List.getElem_cons_zero, beq_iff_eq] at h1
          by_cases h : j = k
          · subst h; simp [mget, List.find?_cons, h1]
          · rw [if_neg h]; simp [mget, List.find?_cons, h1, Ne.symm h]
        | succ i =>
          have h0 := h2 0 (by omega)
          simp only [List.getElem_cons_zero, beq_eq_false_iff_ne, ne_eq] at h0
          have := ih i (by simpa using hi) (by simpa using h1) (fun j hj => by simpa using h2 (j + 1) (by omega))
          simp only [List.modify_succ_cons]
          unfold mget at this ⊢
          simp only [List.find?_cons]
          by_cases hy : (y.1 == j) = true
          · rw [hy]
            have : ¬ j = k := fun c => h0 (by rw [← c]; simpa using hy)
            simp [this]
          · rw [show (y.1 == j) = false by simpa using hy]; exact this
    exact key m i hi h1 (fun j hj => by simpa using h2 j hj)
theorem find_now (q kk : IntKind) (k : Int) : ∀ (es : List MapEntry) (m : List (Int × Value)) (i : Nat), MapIs kk es m → Instr.findNow (.int q) (.int kk k) es i = some (match m.findIdx? (fun x => x.1 == k) with
    | none => none
    | some j => some (i + j, (m[j]?.map (·.2)).getD undef))
  | [], m, i, h => by
    have : m = [] := by simpa [MapIs] using h.symm
    subst this; rfl
  | e :: es, [], i, h => by simp [MapIs] at h
  | e :: es, (k', v) :: m, i, h => by
    simp only [MapIs, List.map_cons, List.cons.injEq, kv, Prod.mk.injEq] at h
    obtain ⟨⟨h1, h2⟩, h3⟩ := h
    unfold Instr.findNow
    rw [h1]
    simp only [Instr.sameNow, if_true]
    by_cases hk : k = k'
    · subst hk
      simp [List.findIdx?_cons, h2]
    · have hk' : (k == k') = false := by simpa using hk
      have hk2 : (k' == k) = false := by simpa using Ne.symm hk
      rw [hk']
      simp only
      rw [find_now q kk k es m (i + 1) h3, List.findIdx?_cons, hk2]
      cases m.findIdx? (fun x => x.1 == k) with
      | none => rfl
      | some j => simp; omega
theorem mget_idx {m : List (Int × Value)} {k : Int} : mget m k = (m.findIdx? (fun x => x.1 == k)).bind fun j => m[j]?.map (·.2) := by
  unfold mget
  induction m with
  | nil => rfl
  | cons y m ih =>
    simp only [List.find?_cons, List.findIdx?_cons]
    by_cases h : (y.1 == k) = true
    · simp [h]
    · rw [show (y.1 == k) = false by simpa using h]
      rw [ih]
      cases m.findIdx? (fun x => x.1 == k) <;> simp
section
variable {C : Ctx} {k : List It} {E : Env} {Ps : List PA} {Os : List OA}
variable {o : Oper} {ops : Array Oper} {S : World → Prop} {r : Pl} {f : Bool}
theorem run_ckI {P : Program} {kt : TypeId} {q kk : IntKind} {n : Int} {b : Bool} (w : World) (hk : (underlying kt).run P w = .ok (.int q) w) : (Instr.checkKey b 10000 kt (.int kk n)).run P w = .ok () w := by
  have : ∀ m, (Instr.checkKey b (m + 1) kt (.int kk n)).run P w = .ok () w := fun m => by
    simp only [Instr.checkKey, Sem.run_bind, hk, Result.andThen_ok]; rfl
  exact this 9999
theorem run_lookupI {P : Program} {tb : TB} (ht : TOk P tb) (w : World) {t kt et : TypeId} {q kk : IntKind} {s1 : Nat} {a1 : Bool} {z1 : Value} {y1 : Nat} {s2 : Nat} {a2 : Bool} {z2 : Value} {y2 : Nat} {i : TI} {b : Nat} {es : Array MapEntry} {clock : Nat} {m : List (Int × Value)} {n : Int} {c : Bool}
    (h1 : lookT tb t = some ⟨.map kt et, s1, a1, z1, y1⟩) (h2 : lookT tb kt = some ⟨.int q, s2, a2, z2, y2⟩) (h3 : lookT tb et = some i) (hb : w.heap[b]? = some (.map es clock)) (hm : MapIs kk es.toList m) :
    (Instr.lookup t (.map (some b)) (.int kk n) c).run P w = .ok (if c then .tuple #[(mget m n).getD i.zero, .bool (mget m n).isSome] else (mget m n).getD i.zero) w := by
  have hu := run_und (ht _ _ h1).u w
  have hk := run_und (ht _ _ h2).u w
  have hz := (ht _ _ h3).zero w
  have hg := MapKept.run_getObj_map (P := P) hb
  have hf := find_now q kk n es.toList m 0 hm
  have hck : (Instr.checkKey es.isEmpty 10000 kt (.int kk n)).run P w = .ok () w := by
    exact run_ckI w hk
  have hfk : (Instr.findKey kt (.int kk n) es.toList).run P w = .ok (match m.findIdx? (fun x => x.1 == n) with | none => none | some j => some (0 + j, (m[j]?.map (·.2)).getD undef)) w := by
    simp [Instr.findKey, hk, hf]
  simp only [Instr.lookup, Sem.run_bind, hu, Result.andThen_ok, hg, Sem.run_pure, hck, hfk]
  rw [mget_idx]
  cases e : m.findIdx? (fun x => x.1 == n) with
  | none => cases c <;> simp [hz]
  | some j =>
    rw [List.findIdx?_eq_some_iff_getElem] at e
    obtain ⟨hj, _, _⟩ := e
    cases c <;> simp [List.getElem?_eq_getElem hj]
theorem lookup_val {tb : TB} (ht : TOk C.P tb) {t kt et : TypeId} {x y : Operand} {q kk : IntKind} {s1 : Nat} {a1 : Bool} {z1 : Value} {y1 : Nat} {s2 : Nat} {a2 : Bool} {z2 : Value} {y2 : Nat} {i : TI} {b : Nat} {m : List (Int × Value)} {n : Int} {c : Bool} {rr : List OA} {v : Value}
    (ho : o.op = .lookup t x y c) (hx : ev E x = some (.map (some b))) (hy : ev E y = some (.int kk n)) (h1 : lookT tb t = some ⟨.map kt et, s1, a1, z1, y1⟩) (h2 : lookT tb kt = some ⟨.int q, s2, a2, z2, y2⟩) (h3 : lookT tb et = some i) (hr : Rem (mapO b kk m) Os rr)
    (hv : (if c then Value.tuple #[(mget m n).getD i.zero, .bool (mget m n).isSome] else (mget m n).getD i.zero) = v) :
    ∀ a w hp ho, Fits C.N E a → Sat w hp ho Ps Os → (execOp a.eval o).run C.P w = .ok (.value v) w := fun a w hp ho' hf hs => by
  subst hv
  obtain ⟨g1, la, es, clock, hb, hm⟩ := hr.sep hs.os
  have hbw : w.heap[b]? = some (.map es clock) := hs.ino _ _ (la _ _ hb)
  have := run_lookupI ht w (n := n) (c := c) h1 h2 h3 hbw hm
  simp [execOp, ho, hf.ev hx, hf.ev hy, this]
theorem go_makemap {t : TypeId} {kk : IntKind} (ho : o.op = .makeMap t none) (hw : wants ops E o = some true) (hd : okDst C.N o.dst = true)
    (hS : f = true → ∀ b w hp ho, Sat w hp ho Ps (mapO b kk [] :: Os) → S w)
    (g : ∀ b, Go C (.ops ops S r :: k) (setE o.dst (.map (some b)) E) Ps (mapO b kk [] :: Os)) : Go C (.ops ops S (.one 0 f o r) :: k) E Ps Os :=
  go_eff (fun b => .map (some b)) (fun _ => Ps) (fun b => mapO b kk [] :: Os) hw hd (fun a w hp ho' hf hs hb => by
    obtain ⟨ho2, h1, h2⟩ := sat_alloc hs hb (mapO w.heap.size kk []) (.map #[] 0) (fun h e => ⟨#[], 0, e, rfl⟩)
    refine ⟨w.heap.size, _, hp, ho2, ?_, h1, h2⟩
    simp [execOp, ho, Instr.makeMap, newObj, Sem.run]) hS g
theorem sat_obj {w : World} {hp ho : Heap} {b : Nat} {new : Obj} {A B : OA} {rr : List OA} (h : Rem A Os rr) (hA : ∀ hp g, A.p hp g → ∃ o, g b = some o) (hB : ∀ (hp g : Heap), g b = some new → B.p hp g) (hs : Sat w hp ho Ps Os) (hb : Base C w hp ho) :
    ∃ ho', Sat { w with heap := w.heap.setIfInBounds b new } hp ho' Ps (B :: rr) ∧ Base C { w with heap := w.heap.setIfInBounds b new } hp ho' := by
  obtain ⟨h1, h2, a1, b1, c1, d0, e1⟩ := Sep.rem h hs.os
  obtain ⟨old, d1⟩ := hA _ _ d0
  have hbo := a1 _ _ d1
  have hbw := hs.ino _ _ hbo
  have hlt : b < w.heap.size := (Array.getElem?_eq_some_iff.1 hbw).1
  have other : ∀ h : Heap, h.le (hpOf w) → h b = none → h.le (hpOf { w with heap := w.heap.setIfInBounds b new }) := fun h hl hn x u e => by
    have hx : x ≠ b := fun q => by subst q; rw [hn] at e; cases e
    have := hl _ _ e
    simp only [hpOf] at this ⊢
    rw [Array.getElem?_setIfInBounds_ne (Ne.symm hx)]
    exact this
  have n2 : h2 b = none := by rcases c1 b with q | q; · rw [d1] at q; cases q
                              · exact q
  have np : hp b = none := by rcases hs.dj b with q | q; · exact q
                              · rw [hbo] at q; cases q
  have nf : C.hf b = none := by rcases hb.djo b with q | q; · exact q
                                · rw [hbo] at q; cases q
  have nw : (Heap.one b new).le (hpOf { w with heap := w.heap.setIfInBounds b new }) := Heap.one_le (by simp [hpOf, hlt])
  have dd : (Heap.one b new).dj h2 := Heap.one_dj n2
  refine ⟨(Heap.one b new).add h2, ⟨other hp hs.inp np, Heap.add_le nw (other h2 (b1.tr hs.ino) n2), Heap.dj_symm (Heap.add_dj (Heap.one_dj np) (Heap.dj_symm (Heap.dj_le hs.dj (Heap.le_refl _) b1))), hs.ps,
    _, h2, Heap.le_add_left _ _, Heap.le_add_right dd, dd, hB _ _ (by simp [Heap.one]), e1⟩, hb.hp0, other _ hb.hf nf, hb.djp,
    Heap.dj_symm (Heap.add_dj (Heap.one_dj nf) (Heap.dj_symm (Heap.dj_le hb.djo (Heap.le_refl _) b1))), hb.rest.os, hb.rest.tape, hb.rest.output, hb.rest.drawn, ?_⟩
  have := hb.rest.size
  simpa using this
theorem run_msetI {P : Program} {tb : TB} (ht : TOk P tb) (w : World) {t kt et : TypeId} {q kk : IntKind} {s1 : Nat} {a1 : Bool} {z1 : Value} {y1 : Nat} {s2 : Nat} {a2 : Bool} {z2 : Value} {y2 : Nat} {b : Nat} {es : Array MapEntry} {clock : Nat} {m : List (Int × Value)} {n : Int} {v : Value}
    (h1 : lookT tb t = some ⟨.map kt et, s1, a1, z1, y1⟩) (h2 : lookT tb kt = some ⟨.int q, s2, a2, z2, y2⟩) (hb : w.heap[b]? = some (.map es clock)) (hm : MapIs kk es.toList m) :
    ∃ es' clock', (Instr.mapUpdate t (.map (some b)) (.int kk n) v).run P w = .ok () { w with heap := w.heap.setIfInBounds b (.map es' clock') } ∧ MapIs kk es'.toList (mset m n v) := by
  have hu := run_und (ht _ _ h1).u w
  have hk := run_und (ht _ _ h2).u w
  have hg := MapKept.run_getObj_map (P := P) hb
  have hf := find_now q kk n es.toList m 0 hm
  have hck : (Instr.checkKey false 10000 kt (.int kk n)).run P w = .ok () w := by
    exact run_ckI w hk
  have hfk : (Instr.findKey kt (.int kk n) es.toList).run P w = .ok (match m.findIdx? (fun x => x.1 == n) with | none => none | some j => some (0 + j, (m[j]?.map (·.2)).getD undef)) w := by
    simp [Instr.findKey, hk, hf]
  unfold mset
  cases e : m.findIdx? (fun x => x.1 == n) with
  | none =>
    rw [e] at hfk
    refine ⟨es.push { key := .int kk n, val := v, born := clock }, clock + 1, ?_, ?_⟩
    · simp only [Instr.mapUpdate, Sem.run_bind, hu, Result.andThen_ok, hg, hck, hfk, MapKept.run_setObj_map _ hb]
    · simp only [MapIs, Array.toList_push, List.map_append, List.map_cons, List.map_nil, kv]
      rw [hm]
  | some j =>
    rw [e] at hfk
    rw [List.findIdx?_eq_some_iff_getElem] at e
    obtain ⟨hj, hjk, _⟩ := e
    have hlen : es.toList.length = m.length := by have := congrArg List.length hm; simpa using this
    have hje : j < es.size := by rw [← Array.length_toList, hlen]; exact hj
    have hkey : es[j].key = .int kk n := by
      have h3 : (es.toList.map kv)[j]? = (m.map fun x => (Value.int kk x.1, x.2))[j]? := by rw [hm]
      rw [List.getElem?_map, List.getElem?_map, List.getElem?_eq_getElem hj, Array.getElem?_toList, Array.getElem?_eq_getElem hje] at h3
      simp only [Option.map_some, Option.some.injEq, kv, Prod.mk.injEq] at h3
      rw [h3.1]
      simp only [beq_iff_eq] at hjk
      rw [hjk]
    have hst : (Instr.keyThatStays (((es[0 + j]?).map (·.key)).getD (.int kk n)) (.int kk n)).run P w = .ok (.int kk n) w := by
      rw [Nat.zero_add, Array.getElem?_eq_getElem hje]
      simp [Instr.keyThatStays, hkey, Instr.sameBits]
    refine ⟨es.modify (0 + j) fun e => { e with key := .int kk n, val := v }, clock, ?_, ?_⟩
    · simp only [Instr.mapUpdate, Sem.run_bind, hu, Result.andThen_ok, hg, hck, hfk, hst, MapKept.run_setObj_map _ hb]
    · unfold MapIs
      apply List.ext_getElem?
      intro i
      have h3 : (es.toList.map kv)[i]? = (m.map fun x => (Value.int kk x.1, x.2))[i]? := by rw [hm]
      rw [List.getElem?_map, List.getElem?_map] at h3
      rw [List.getElem?_map, List.getElem?_map, Array.getElem?_toList, Array.getElem?_modify, List.getElem?_modify, Nat.zero_add]
      by_cases hij : j = i
      · subst hij
        simp only [beq_iff_eq] at hjk
        simp [Array.getElem?_eq_getElem hje, List.getElem?_eq_getElem hj, kv, hjk]
      · rw [Array.getElem?_toList] at h3
        simp only [if_neg hij, Option.map_id, id]
        simpa using h3
theorem go_mset {tb : TB} (ht : TOk C.P tb) {t kt et : TypeId} {x y z : Operand} {q kk : IntKind} {s1 : Nat} {a1 : Bool} {z1 : Value} {y1 : Nat} {s2 : Nat} {a2 : Bool} {z2 : Value} {y2 : Nat} {b : Nat} {m : List (Int × Value)} {n : Int} {v : Value} {rr : List OA}
    (ho : o.op = .mapUpdate t x y z) (hw : wants ops E o = some true) (hx : ev E x = some (.map (some b))) (hy : ev E y = some (.int kk n)) (hz : ev E z = some v) (h1 : lookT tb t = some ⟨.map kt et, s1, a1, z1, y1⟩) (h2 : lookT tb kt = some ⟨.int q, s2, a2, z2, y2⟩) (hd : okDst C.N o.dst = true)
    (hr : Rem (mapO b kk m) Os rr) (hS : f = true → ∀ w hp ho, Sat w hp ho Ps (mapO b kk (mset m n v) :: rr) → S w)
    (g : Go C (.ops ops S r :: k) (setE o.dst undef E) Ps (mapO b kk (mset m n v) :: rr)) : Go C (.ops ops S (.one 0 f o r) :: k) E Ps Os :=
  go_effU Ps (mapO b kk (mset m n v) :: rr) hw hd (fun a w hp ho' hf hs hb => by
    obtain ⟨g1, la, es, clock, hbb, hm⟩ := hr.sep hs.os
    have hbw : w.heap[b]? = some (.map es clock) := hs.ino _ _ (la _ _ hbb)
    obtain ⟨es', clock', hrun, hm'⟩ := run_msetI ht w (n := n) (v := v) h1 h2 hbw hm
    obtain ⟨ho2, q1, q2⟩ := sat_obj (C := C) (new := .map es' clock') (B := mapO b kk (mset m n v)) hr (fun hp g ⟨es, clock, e, _⟩ => ⟨_, e⟩) (fun hp g e => ⟨es', clock', e, hm'⟩) hs hb
    exact ⟨_, hp, ho2, by simp [execOp, ho, hf.ev hx, hf.ev hy, hf.ev hz, hrun], q1, q2⟩) hS g
end
structure YldS (P : Program) (l : Nat) {α : Type} (enc : α → Value) (Px : List α → α → List PA) (R St : List α → OA) : Prop where
  go : ∀ (pre : List α) (x : α) (w : World) (hp ho hf : Heap), Sat w hp ho (Px pre x) [R pre] → hf.le (hpOf w) → hf.dj hp → hf.dj ho →
    ∃ fn tmps assign body, (Instr.yield l #[enc x]).run P w = .ok (.round l fn tmps assign body) w ∧
      RoundIn Fence.wide 0 P l fn tmps assign body w (fun e w' => ∃ hp' ho' b, e = .returned (.bool b) ∧ Sat w' hp' ho' [] [cond b (R (pre ++ [x])) (St (pre ++ [x]))] ∧ hp.le hp' ∧ hf.le (hpOf w') ∧ hf.dj hp' ∧ hf.dj ho' ∧ Rest w w')
section
variable {C : Ctx} {k : List It} {E : Env} {Ps : List PA} {Os : List OA}
variable {o : Oper} {ops : Array Oper} {S : World → Prop} {r : Pl} {f : Bool}
theorem go_yieldS {α : Type} {enc : α → Value} {Px : List α → α → List PA} {R St : List α → OA} {l : Nat} (hy : YldS C.P l enc Px R St) (pre : List α) (x : α) {fx ax : Operand} {tys : Array TypeId} {rr : List OA} (ho : o.op = .call ⟨.value fx, #[ax], tys⟩) (hw : wants ops E o = some true)
    (hfx : ev E fx = some (.func (.yield l) #[] #[])) (hax : ev E ax = some (enc x)) (hd : okDst C.N o.dst = true) (hP : Subs Ps (Px pre x)) (hO : Takes Os [R pre] rr)
    (g : ∀ b, Go C (.ops ops S r :: k) (setE o.dst (.bool b) E) Ps (cond b (R (pre ++ [x])) (St (pre ++ [x])) :: rr)) : Go C (.ops ops S (.yld o r) :: k) E Ps Os := fun a w hp ho' hf hs hb => by
  show rwp _ _ _ _ _ _ _
  rw [rwp, if_pos (wants_eq hf hw)]
  obtain ⟨h1, h2, a1, b1, c1, d1, e1⟩ := Sep.takes hO hs.os
  obtain ⟨fn, tmps, assign, body, hrun, hround⟩ := hy.go pre x w hp h1 (C.hf.add h2) ⟨hs.inp, a1.tr hs.ino, Heap.dj_le hs.dj (Heap.le_refl _) a1, (hs.ents hP.ents).ps, d1⟩ (Heap.add_le hb.hf (b1.tr hs.ino))
    (Heap.add_dj hb.djp (Heap.dj_symm (Heap.dj_le hs.dj (Heap.le_refl _) b1))) (Heap.add_dj (Heap.dj_le hb.djo (Heap.le_refl _) a1) (Heap.dj_symm c1))
  have hex : (execOp a.eval o).run C.P w = .ok (.round l fn tmps assign body) w := by
    simp [execOp, ho, resolve, hf.ev hfx, hf.ev hax, Deferred.ofValue, invoke, hrun]
  refine ⟨fun _ _ => trivial, ?_⟩
  rw [show Fence.wide.round = none from rfl, Oper.semAt_none, hex, Oper.uponIn_round]
  refine ⟨fun h => by simp [Fence.wide] at h, hround.mono ?_⟩
  rintro e w' ⟨hp', ho2, b, rfl, hs', hle, hfl, djp, djo, hrest⟩
  have dfo : C.hf.dj h2 := Heap.dj_le hb.djo (Heap.le_refl _) b1
  have l2 : h2.le (C.hf.add h2) := Heap.le_add_right dfo
  have dA : ho2.dj h2 := Heap.dj_symm (Heap.dj_le djo l2 (Heap.le_refl _))
  have dB : hp'.dj h2 := Heap.dj_symm (Heap.dj_le djp l2 (Heap.le_refl _))
  have sat : Sat w' hp' (ho2.add h2) Ps ([cond b (R (pre ++ [x])) (St (pre ++ [x]))] ++ rr) := ⟨hs'.inp, Heap.add_le hs'.ino (l2.tr hfl), Heap.dj_symm (Heap.add_dj (Heap.dj_symm hs'.dj) (Heap.dj_symm dB)),
    fun p hp0 => p.up hle (hs.ps p hp0), Sep.app (Heap.le_add_left _ _) (Heap.le_add_right dA) dA hs'.os (Sep.up hle e1)⟩
  have base : Base C w' hp' (ho2.add h2) := ⟨hb.hp0.tr hle, (Heap.le_add_left _ _).tr hfl, Heap.dj_le djp (Heap.le_add_left _ _) (Heap.le_refl _),
    Heap.dj_symm (Heap.add_dj (Heap.dj_symm (Heap.dj_le djo (Heap.le_add_left _ _) (Heap.le_refl _))) (Heap.dj_symm dfo)), hb.rest.trans hrest⟩
  exact g b _ w' hp' _ (hf.put hd (.bool b)) sat base
theorem go_yield2 {α : Type} {enc : α → Value} {Px : List α → α → List PA} {R St : List α → OA} {l : Nat} (hy : YldS C.P l enc Px R St) (pre : List α) (x : α) {fx ax : Operand} {tys : Array TypeId} {rr : List OA} (ho : o.op = .call ⟨.value fx, #[ax], tys⟩) (hw : wants ops E o = some true)
    (hfx : ev E fx = some (.func (.yield l) #[] #[])) (hax : ev E ax = some (enc x)) (hd : okDst C.N o.dst = true) (hP : Subs Ps (Px pre x)) (hO : Takes Os [R pre] rr)
    (g1 : Go C (.ops ops S r :: k) (setE o.dst (.bool true) E) Ps (R (pre ++ [x]) :: rr)) (g2 : Go C (.ops ops S r :: k) (setE o.dst (.bool false) E) Ps (St (pre ++ [x]) :: rr)) : Go C (.ops ops S (.yld o r) :: k) E Ps Os :=
  go_yieldS hy pre x ho hw hfx hax hd hP hO fun b => by cases b; exact g2; exact g1
end
def stopB (P : Program) (n l : Nat) (w0 : World) (hp0 hf : Heap) (Os' : List OA) : Act → World → Prop := fun _ w => ∃ hp ho, Sat w hp ho [] Os' ∧ Base (rc P n l w0 hp0 hf) w hp ho
def stopF (B : Act → World → Prop) : Exit → Act → World → Prop
  | .ret => B
  | _ => fun _ _ => False
def rcS (P : Program) (n l : Nat) (w0 : World) (hp0 hf : Heap) (Os' : List OA) : Ctx := ⟨P, default, ⟨n, []⟩, some l, w0, hp0, hf, fun _ _ _ => False, stopF (stopB P n l w0 hp0 hf Os'), fun _ _ _ h => h, fun _ _ h => h⟩
section
variable {C : Ctx} {k : List It} {E : Env} {Ps : List PA} {Os : List OA}
theorem go_stop {P : Program} {n l : Nat} {w0 : World} {hp0 hf0 : Heap} {Os' r : List OA} (hO : Takes Os Os' r) : Go (rcS P n l w0 hp0 hf0 Os') (.code .ret :: k) E Ps Os := fun a w hp ho hf hs hb =>
  wpIn_ret (by
    show den (some l) P (stopF (stopB P n l w0 hp0 hf0 Os')) k .ret a w
    rw [den_ret]
    obtain ⟨h1, h2, a1, b1, c1, d1, e1⟩ := Sep.takes hO hs.os
    exact ⟨hp, h1, ⟨hs.inp, a1.tr hs.ino, Heap.dj_le hs.dj (Heap.le_refl _) a1, (fun _ h => nomatch h), d1⟩, hb.hp0, hb.hf, hb.djp, Heap.dj_le hb.djo (Heap.le_refl _) a1, hb.rest⟩)
theorem roundsS {P : Program} {n l t : Nat} {α : Type} {enc : α → Value} {Px : List α → α → List PA} {assign body : Code} {tmps : Array Value} {fn : FuncId} {D : Nat} (O Ox : List α → List OA) (hN : tmps.size = n) (ht : Nat.blt t n = true) (hE : ∀ d v, look E d = some v → tmps[d]? = some v)
    {X : Type} (chg : X → Env) (rest : Env) (O1 : List α → α → X → List OA) (J : List α → α → X → Prop)
    (ha : ∀ pre x w0 hp0 hf0, Go (rc P n l w0 hp0 hf0) [.code assign, .back (Bk (rc P n l w0 hp0 hf0) chg rest (fun _ => Px pre x ++ Ps) (O1 pre x) (J pre x) (fun _ => 0) 1)] ((t, enc x) :: E) (Px pre x ++ Ps) (O pre))
    (hb : ∀ pre x y, J pre x y → ∀ w0 hp0 hf0, Go (rcS P n l w0 hp0 hf0 (Ox (pre ++ [x]))) [.code body, .back (Bk (rcS P n l w0 hp0 hf0 (Ox (pre ++ [x]))) (fun _ : Unit => []) [] (fun _ => Ps) (fun _ => O (pre ++ [x])) (fun _ => True) (fun _ => 0) 1)] (chg y ++ rest) (Px pre x ++ Ps) (O1 pre x y)) :
    YldS P l enc Px (fun pre => loopA Ps l { state := .ready, pending := none, fn, tmps, params := #[t], assign, body, defers := D } (O pre)) (fun pre => loopA Ps l { state := .done, pending := some .ret, fn, tmps, params := #[t], assign, body, defers := D } (Ox pre)) := ⟨fun pre x w hp ho hf hs hfw d1 d2 => by
  generalize hrec : ({ state := .ready, pending := none, fn, tmps, params := #[t], assign, body, defers := D } : Loop) = rec at *
  obtain ⟨g1, _, la, _, _, ⟨hps, h2, lb, lr, dr, sO⟩, _⟩ := hs.os
  have lro : (Heap.one l (.loop rec)).le ho := lr.tr la
  have hl : w.heap[l]? = some (.loop rec) := hs.ino _ _ (lro _ _ (one_at _ _))
  have hyr := run_yield (P := P) (args := #[enc x]) hl (by rw [← hrec]; rfl)
  refine ⟨_, _, _, _, hyr, ?_⟩
  have dfr : hf.dj (Heap.one l (.loop rec)) := Heap.dj_le d2 (Heap.le_refl _) lro
  have dpr : hp.dj (Heap.one l (.loop rec)) := Heap.dj_le hs.dj (Heap.le_refl _) lro
  have lO : h2.le ho := lb.tr la
  have fl : hf l = none := by
    rcases dfr l with q | q
    · exact q
    · rw [one_at] at q; cases q
  refine roundIn_of_wpIn (F := Fence.wide) (n := 0) trivial ?_
  have hfit : Fits ⟨n, []⟩ ((t, enc x) :: E) { tmps := (rec.params.zip #[enc x]).foldl (fun tmps (t, a) => tmps.setIfInBounds t a) rec.tmps, defers := [] } := by
    have hz : (rec.params.zip #[enc x]).foldl (fun tmps (t, a) => tmps.setIfInBounds t a) rec.tmps = tmps.setIfInBounds t (enc x) := by rw [← hrec]; simp
    rw [hz]
    refine ⟨by simp [hN], rfl, fun d v e => ?_⟩
    simp only [look] at e
    have htl : t < tmps.size := by rw [hN]; exact Nat.le_of_ble_eq_true ht
    show (tmps.setIfInBounds t (enc x))[d]? = some v
    cases hbq : Nat.beq t d with
    | true =>
      rw [hbq] at e
      simp at e
      subst e
      rw [← Nat.eq_of_beq_eq_true hbq]
      simp [htl]
    | false =>
      rw [hbq] at e
      have hne : t ≠ d := fun q => by subst q; rw [Nat.beq_refl] at hbq; cases hbq
      rw [Array.getElem?_setIfInBounds_ne hne]
      exact hE d v e
  have hpx : ∀ p, p ∈ Px pre x ++ Ps → p.p hp := fun p hm => by
    rcases List.mem_append.1 hm with q | q
    · exact hs.ps p q
    · exact hps p q
  have sat1 : Sat w hp h2 (Px pre x ++ Ps) (O pre) := ⟨hs.inp, lO.tr hs.ino, Heap.dj_le hs.dj (Heap.le_refl _) lO, hpx, sO⟩
  have hfr : (hf.add (Heap.one l (.loop rec))).le (hpOf w) := Heap.add_le hfw (lro.tr hs.ino)
  have base1 : Base (rc P n l w hp (hf.add (Heap.one l (.loop rec)))) w hp h2 := ⟨Heap.le_refl _, hfr, Heap.add_dj d1 (Heap.dj_symm dpr), Heap.add_dj (Heap.dj_le d2 (Heap.le_refl _) lO) dr, .refl _⟩
  have step1 := ha pre x w hp (hf.add (Heap.one l (.loop rec))) _ w hp h2 hfit sat1 base1
  rw [show rec.assign = assign from by rw [← hrec], show rec.body = body from by rw [← hrec]]
  refine wpIn_mono (show assign.wpIn (Fence.wide.inRound l) 0 P _ _ w from step1) fun e a1 w1 q => ?_
  cases e with
  | normal =>
    obtain ⟨y, hp1, ho1, f1, s1, b1, j1, _⟩ := q
    have hl1 : w1.heap[l]? = some (.loop rec) := b1.hf _ _ (Heap.le_add_right dfr _ _ (one_at _ _))
    refine ⟨_, run_beginRound hl1 (by rw [← hrec]), ?_⟩
    have r1 : (Heap.one l (.loop rec)).dj hp1 := Heap.dj_le b1.djp (Heap.le_add_right dfr) (Heap.le_refl _)
    have r2 : (Heap.one l (.loop rec)).dj ho1 := Heap.dj_le b1.djo (Heap.le_add_right dfr) (Heap.le_refl _)
    have r3 : hf.dj hp1 := Heap.dj_le b1.djp (Heap.le_add_left _ _) (Heap.le_refl _)
    have r4 : hf.dj ho1 := Heap.dj_le b1.djo (Heap.le_add_left _ _) (Heap.le_refl _)
    have dfb : ∀ o', hf.dj (Heap.one l o') := fun o' => Heap.dj_symm (dj_one (Heap.dj_symm dfr))
    have step2 := hb pre x y j1 (w1.putObj l (.loop { rec with state := .busy })) hp1 (hf.add (Heap.one l (.loop { rec with state := .busy }))) a1 _ hp1 ho1 f1
      ⟨put_le s1.inp (dj_at r1 (one_at _ _)), put_le s1.ino (dj_at r2 (one_at _ _)), s1.dj, s1.ps, s1.os⟩
      ⟨Heap.le_refl _, Heap.add_le (put_le ((Heap.le_add_left _ _).tr b1.hf) fl) (put_one hl1), Heap.add_dj r3 (dj_one r1), Heap.add_dj r4 (dj_one r2), .refl _⟩
    refine wpIn_mono (show body.wpIn (Fence.wide.inRound l) 0 P _ _ _ from step2) fun e2 a2 w3 q2 => ?_
    cases e2 with
    | normal =>
      obtain ⟨_, hp3, ho3, f3, s3, b3, _, _⟩ := q2
      have hl3 : w3.heap[l]? = some (.loop { rec with state := .busy }) := b3.hf _ _ (Heap.le_add_right (dfb _) _ _ (one_at _ _))
      have he := run_endRound (P := P) none hl3
      have hrr : ({ { rec with state := LoopState.busy } with state := if (none : Option Code).isNone then LoopState.ready else LoopState.done, pending := none } : Loop) = rec := by rw [← hrec]; rfl
      rw [hrr] at he
      refine ⟨_, _, he, ?_⟩
      have t1 : (Heap.one l (.loop { rec with state := .busy })).dj hp3 := Heap.dj_le b3.djp (Heap.le_add_right (dfb _)) (Heap.le_refl _)
      have t2 : (Heap.one l (.loop { rec with state := .busy })).dj ho3 := Heap.dj_le b3.djo (Heap.le_add_right (dfb _)) (Heap.le_refl _)
      have t3 : hf.dj hp3 := Heap.dj_le b3.djp (Heap.le_add_left _ _) (Heap.le_refl _)
      have t4 : hf.dj ho3 := Heap.dj_le b3.djo (Heap.le_add_left _ _) (Heap.le_refl _)
      have dN : (Heap.one l (.loop rec)).dj ho3 := dj_one t2
      refine ⟨hp3, (Heap.one l (.loop rec)).add ho3, true, rfl, ⟨put_le s3.inp (dj_at t1 (one_at _ _)), Heap.add_le (put_one hl3) (put_le s3.ino (dj_at t2 (one_at _ _))), Heap.dj_symm (Heap.add_dj (dj_one t1) (Heap.dj_symm s3.dj)), (fun _ h => nomatch h),
          sep_one ⟨s3.ps, ho3, Heap.le_add_right dN, Heap.le_add_left _ _, dN, s3.os⟩⟩, b1.hp0.tr b3.hp0, put_le ((Heap.le_add_left _ _).tr b3.hf) fl, t3, Heap.dj_symm (Heap.add_dj (Heap.dj_symm (dfb _)) (Heap.dj_symm t4)),
          (b1.rest.trans put_rest).trans (b3.rest.trans put_rest)⟩
    | ret =>
      obtain ⟨hp3, ho3, s3, b3⟩ := q2
      have hl3 : w3.heap[l]? = some (.loop { rec with state := .busy }) := b3.hf _ _ (Heap.le_add_right (dfb _) _ _ (one_at _ _))
      have he := run_endRound (P := P) (some Code.ret) hl3
      generalize hrs : ({ { rec with state := LoopState.busy } with state := if (some Code.ret).isNone then LoopState.ready else LoopState.done, pending := some Code.ret } : Loop) = recS at he
      have hrS : ({ state := .done, pending := some .ret, fn, tmps, params := #[t], assign, body, defers := D } : Loop) = recS := by rw [← hrs, ← hrec]; rfl
      rw [hrS]
      refine ⟨_, _, he, ?_⟩
      have t1 : (Heap.one l (.loop { rec with state := .busy })).dj hp3 := Heap.dj_le b3.djp (Heap.le_add_right (dfb _)) (Heap.le_refl _)
      have t2 : (Heap.one l (.loop { rec with state := .busy })).dj ho3 := Heap.dj_le b3.djo (Heap.le_add_right (dfb _)) (Heap.le_refl _)
      have t3 : hf.dj hp3 := Heap.dj_le b3.djp (Heap.le_add_left _ _) (Heap.le_refl _)
      have t4 : hf.dj ho3 := Heap.dj_le b3.djo (Heap.le_add_left _ _) (Heap.le_refl _)
      have dN : (Heap.one l (.loop recS)).dj ho3 := dj_one t2
      refine ⟨hp3, (Heap.one l (.loop recS)).add ho3, false, rfl, ⟨put_le s3.inp (dj_at t1 (one_at _ _)), Heap.add_le (put_one hl3) (put_le s3.ino (dj_at t2 (one_at _ _))), Heap.dj_symm (Heap.add_dj (dj_one t1) (Heap.dj_symm s3.dj)), (fun _ h => nomatch h),
          sep_one ⟨fun p hp => p.up b3.hp0 (s1.ps p (List.mem_append_right _ hp)), ho3, Heap.le_add_right dN, Heap.le_add_left _ _, dN, s3.os⟩⟩, b1.hp0.tr b3.hp0, put_le ((Heap.le_add_left _ _).tr b3.hf) fl, t3, Heap.dj_symm (Heap.add_dj (Heap.dj_symm (dfb _)) (Heap.dj_symm t4)),
          (b1.rest.trans put_rest).trans (b3.rest.trans put_rest)⟩
    | exit i => exact q2.elim
    | goto i => exact q2.elim
    | panic c => exact q2.elim
    | outgrown => exact q2.elim
  | exit i => exact q.elim
  | goto i => exact q.elim
  | ret => exact q.elim
  | panic c => exact q.elim
  | outgrown => exact q.elim⟩
theorem go_rangeS {α : Type} {enc : α → Value} {Px : List α → α → List PA} {g : Operand} {t : Nat} {assign body : Code} {gf : FuncId} {first cap : Array Value} (hro : C.ro = none) (hg : ev E g = some (.func (.func gf) first cap)) (ht : Nat.blt t C.N.n = true)
    (O Ox : List α → List OA) (OsI OsI' : List OA) {r1 rr : List OA} (hO1 : Takes Os OsI r1) (hO2 : Takes r1 (O []) rr) (PsI : List PA) (hP : Subs Ps PsI) (Sx Tx : List α → Prop)
    (hseq : ∀ (l : Nat) (R St : List α → OA), YldS C.P l enc Px R St → Spec C.P gf (first ++ #[.func (.yield l) #[] #[]] ++ cap) PsI (R [] :: OsI) (fun v Ps' Os' => Ps' = [] ∧ ((∃ xs, Sx xs ∧ Os' = R xs :: OsI') ∨ (∃ xs, Tx xs ∧ Os' = St xs :: OsI'))))
    {X : Type} (chg : X → Env) (rest : Env) (O1 : List α → α → X → List OA) (J : List α → α → X → Prop)
    (ha : ∀ l pre x w0 hp0 hf0, Go (rc C.P C.N.n l w0 hp0 hf0) [.code assign, .back (Bk (rc C.P C.N.n l w0 hp0 hf0) chg rest (fun _ => Px pre x ++ Ps) (O1 pre x) (J pre x) (fun _ => 0) 1)] ((t, enc x) :: E) (Px pre x ++ Ps) (O pre))
    (hb : ∀ l pre x y, J pre x y → ∀ w0 hp0 hf0, Go (rcS C.P C.N.n l w0 hp0 hf0 (Ox (pre ++ [x]))) [.code body, .back (Bk (rcS C.P C.N.n l w0 hp0 hf0 (Ox (pre ++ [x]))) (fun _ : Unit => []) [] (fun _ => Ps) (fun _ => O (pre ++ [x])) (fun _ => True) (fun _ => 0) 1)] (chg y ++ rest) (Px pre x ++ Ps) (O1 pre x y))
    (done : ∀ D xs, C.hf.dj (Heap.one D (.deferred (some []))) → Sx xs → Go (after C D) k E Ps (OsI' ++ (O xs ++ rr)))
    (stop : ∀ D xs, C.hf.dj (Heap.one D (.deferred (some []))) → Tx xs → Go (after C D) (.code .ret :: k) E Ps (OsI' ++ (Ox xs ++ rr))) : Go C (.code (.rangeFunc g #[t] assign body) :: k) E Ps Os := by
  obtain ⟨P, fn, N, ro, w0, hp0, hf0, Q, fin, pan, out⟩ := C
  cases hro
  intro a w hp ho hf hs hb'
  obtain ⟨hI, hr1, aI, ar1, dI, sI, sr1⟩ := Sep.takes hO1 hs.os
  obtain ⟨hO, hR, aO, aR, dO, sO, sR⟩ := Sep.takes hO2 sr1
  show (Code.rangeFunc g #[t] assign body).wpIn Fence.wide 0 P (den none P fin k) a w
  refine wpIn_rangeFunc fun fnid _ => ?_
  generalize hrec : ({ state := .ready, pending := none, fn := fnid, tmps := a.tmps, params := #[t], assign, body, defers := w.heap.size } : Loop) = rec
  have hY := roundsS (Ps := Ps) (E := E) (Px := Px) (P := P) (n := N.n) (l := w.heap.size + 1) (t := t) (enc := enc) (assign := assign) (body := body) (tmps := a.tmps) (fn := fnid) (D := w.heap.size) O Ox hf.size ht hf.at_ chg rest O1 J (ha _) (hb _)
  rw [hrec] at hY
  have hsp := hseq (w.heap.size + 1) _ _ hY
  obtain ⟨fd, q1, q2, q3⟩ := hsp.fn
  have hres : (resolve a.eval (rangeCall g (w.heap.size + 1)) 0).run P ((w.alloc (.deferred (some []))).alloc (.loop rec)) = .ok { target := .fn (.func gf) cap, args := first ++ #[.func (.yield (w.heap.size + 1)) #[] #[]] } ((w.alloc (.deferred (some []))).alloc (.loop rec)) := by
    have hg' : a.eval g = .func (.func gf) first cap := hf.ev hg
    show (Deferred.ofValue (a.eval g) (#[Operand.const (.func (.yield (w.heap.size + 1)) #[] #[])].map a.eval)).run P _ = _
    rw [hg']
    simp [Deferred.ofValue, Act.eval]
  have hinv : (invoke (.fn (.func gf) cap) (first ++ #[.func (.yield (w.heap.size + 1)) #[] #[]])).run P ((w.alloc (.deferred (some []))).alloc (.loop rec)) = .ok (.enter gf (first ++ #[.func (.yield (w.heap.size + 1)) #[] #[]] ++ cap)) ((w.alloc (.deferred (some []))).alloc (.loop rec)) := by
    simp only [invoke, callFunc, program, bind, Sem.bind, Sem.run, q1, q2, q3]
    simp only [Bool.false_eq_true, if_false]
    rfl
  refine ⟨_, _, _, _, _, gf, _, _, by have := run_enterLoop_outer (P := P) (w := w) fnid a.tmps #[t] assign body; rw [hrec] at this; exact this, hres, fun _ _ => trivial, hinv, fun h => by simp [Fence.wide] at h, ?_⟩
  have hwsz : ((w.alloc (.deferred (some []))).alloc (.loop rec)).heap = (w.heap.push (.deferred (some []))).push (.loop rec) := rfl
  have fresh : ∀ h : Heap, h.le (hpOf w) → ∀ b, w.heap.size ≤ b → h b = none := fun h hl b hb => by
    cases e : h b with
    | none => rfl
    | some u => have := hl _ _ e; simp [hpOf] at this; have := (Array.getElem?_eq_some_iff.1 this).1; omega
  have grow : (hpOf w).le (hpOf ((w.alloc (.deferred (some []))).alloc (.loop rec))) := fun b u e => by
    have hlt : b < w.heap.size := (Array.getElem?_eq_some_iff.1 e).1
    simp only [hpOf, hwsz] at e ⊢
    rw [Array.getElem?_push_lt (by simp; omega)]
    simp only [Option.some.injEq]
    rw [Array.getElem_push_lt hlt]
    exact (Array.getElem?_eq_some_iff.1 e).2
  have hD : ((w.alloc (.deferred (some []))).alloc (.loop rec)).heap[w.heap.size]? = some (.deferred (some [])) := by
    rw [hwsz, Array.getElem?_push, Array.getElem?_push]; simp
  have hL : ((w.alloc (.deferred (some []))).alloc (.loop rec)).heap[w.heap.size + 1]? = some (.loop rec) := by
    rw [hwsz, Array.getElem?_push, if_pos (by simp)]
  have oneD : (Heap.one w.heap.size (.deferred (some []))).le (hpOf ((w.alloc (.deferred (some []))).alloc (.loop rec))) := Heap.one_le hD
  have oneL : (Heap.one (w.heap.size + 1) (.loop rec)).le (hpOf ((w.alloc (.deferred (some []))).alloc (.loop rec))) := Heap.one_le hL
  have djD : ∀ h : Heap, h.le (hpOf w) → (Heap.one w.heap.size (.deferred (some []))).dj h := fun h hl => Heap.one_dj (fresh h hl _ (Nat.le_refl _))
  have djL : ∀ h : Heap, h.le (hpOf w) → ∀ o', (Heap.one (w.heap.size + 1) o').dj h := fun h hl o' => Heap.one_dj (fresh h hl _ (by omega))
  have djDL : ∀ o', (Heap.one w.heap.size (.deferred (some []))).dj (Heap.one (w.heap.size + 1) o') := fun o' => Heap.one_dj (by simp [Heap.one])
  have hr0 : Rest w ((w.alloc (.deferred (some []))).alloc (.loop rec)) := ⟨rfl, rfl, rfl, Nat.le_refl _, by rw [hwsz]; simp; omega⟩
  have lI : hI.le (hpOf w) := aI.tr hs.ino
  have lr1 : hr1.le (hpOf w) := ar1.tr hs.ino
  have lO : hO.le (hpOf w) := aO.tr lr1
  have lR : hR.le (hpOf w) := aR.tr lr1
  -- the owned of the call: the record, the body's, the iterator's
  have dLO : (Heap.one (w.heap.size + 1) (.loop rec)).dj hO := djL _ lO _
  have dIO : hI.dj hO := Heap.dj_le dI (Heap.le_refl _) aO
  have dIR : hI.dj hR := Heap.dj_le dI (Heap.le_refl _) aR
  have dX : ((Heap.one (w.heap.size + 1) (.loop rec)).add hO).dj hI := Heap.add_dj (djL _ lI _) (Heap.dj_symm dIO)
  have dpO : hp.dj hO := Heap.dj_le hs.dj (Heap.le_refl _) (aO.tr ar1)
  have dpI : hp.dj hI := Heap.dj_le hs.dj (Heap.le_refl _) aI
  have dpR : hp.dj hR := Heap.dj_le hs.dj (Heap.le_refl _) (aR.tr ar1)
  have satI : Sat ((w.alloc (.deferred (some []))).alloc (.loop rec)) hp (((Heap.one (w.heap.size + 1) (.loop rec)).add hO).add hI) PsI (loopA Ps (w.heap.size + 1) rec (O []) :: OsI) :=
    ⟨hs.inp.tr grow, Heap.add_le (Heap.add_le oneL (lO.tr grow)) (lI.tr grow), Heap.dj_symm (Heap.add_dj (Heap.add_dj (djL _ hs.inp _) (Heap.dj_symm dpO)) (Heap.dj_symm dpI)), (hs.ents hP.ents).ps,
      (Heap.one (w.heap.size + 1) (.loop rec)).add hO, hI, Heap.le_add_left _ _, Heap.le_add_right dX, dX, ⟨hs.ps, hO, Heap.le_add_right dLO, Heap.le_add_left _ _, dLO, sO⟩, sI⟩
  have fI : hf0.dj hI := Heap.dj_le hb'.djo (Heap.le_refl _) aI
  have fO : hf0.dj hO := Heap.dj_le hb'.djo (Heap.le_refl _) (aO.tr ar1)
  have fR : hf0.dj hR := Heap.dj_le hb'.djo (Heap.le_refl _) (aR.tr ar1)
  have hfw : hf0.le (hpOf w) := hb'.hf
  -- the frame of the call
  have dFD : (hf0.add hR).dj (Heap.one w.heap.size (.deferred (some []))) := Heap.dj_symm (Heap.dj_symm (Heap.add_dj (Heap.dj_symm (djD _ hfw)) (Heap.dj_symm (djD _ lR))))
  have frame : ((hf0.add hR).add (Heap.one w.heap.size (.deferred (some [])))).le (hpOf ((w.alloc (.deferred (some []))).alloc (.loop rec))) := Heap.add_le (Heap.add_le (hfw.tr grow) (lR.tr grow)) oneD
  have fdp : ((hf0.add hR).add (Heap.one w.heap.size (.deferred (some [])))).dj hp := Heap.add_dj (Heap.add_dj hb'.djp (Heap.dj_symm dpR)) (djD _ hs.inp)
  have fdo : ((hf0.add hR).add (Heap.one w.heap.size (.deferred (some [])))).dj (((Heap.one (w.heap.size + 1) (.loop rec)).add hO).add hI) :=
    Heap.dj_symm (Heap.add_dj (Heap.add_dj (Heap.dj_symm (Heap.add_dj (Heap.add_dj (Heap.dj_symm (djL _ hfw _)) (Heap.dj_symm (djL _ lR _))) (djDL _))) (Heap.dj_symm (Heap.add_dj (Heap.add_dj fO (Heap.dj_symm dO)) (djD _ lO)))) (Heap.dj_symm (Heap.add_dj (Heap.add_dj fI (Heap.dj_symm dIR)) (djD _ lI))))
  refine (callsIn_wide.2 (hsp.calls _ hp _ _ satI frame fdp fdo)).mono ?_
  rintro e w3 ⟨v, hp3, ho3, Ps3, Os3, rfl, ⟨rfl, hcase⟩, hs3, hle3, hfl3, e1, e2, hr3⟩
  have key : ∀ (rec3 : Loop) (O3 : List OA) (o3 : Obj), Sat w3 hp3 ho3 [] (loopA Ps (w.heap.size + 1) rec3 O3 :: OsI') → w3.heap[w.heap.size + 1]? = some (.loop rec3) ∧ ∃ hoN, Sat (w3.putObj (w.heap.size + 1) o3) hp3 hoN Ps (OsI' ++ (O3 ++ rr)) ∧
      Base (after ⟨P, fn, N, none, w0, hp0, hf0, Q, fin, pan, out⟩ w.heap.size) (w3.putObj (w.heap.size + 1) o3) hp3 hoN := by
    intro rec3 O3 o3 hs3
    obtain ⟨gA, gI, mA, mI, dAI, ⟨hps3, gO, mO, mL, dLO3, sO3⟩, sI3⟩ := hs3.os
    have mLo : (Heap.one (w.heap.size + 1) (.loop rec3)).le ho3 := mL.tr mA
    have hl3 : w3.heap[w.heap.size + 1]? = some (.loop rec3) := hs3.ino _ _ (mLo _ _ (one_at _ _))
    have lR3 : hR.le ((hf0.add hR).add (Heap.one w.heap.size (.deferred (some [])))) := (Heap.le_add_right fR).tr (Heap.le_add_left _ _)
    have lF3 : (hf0.add (Heap.one w.heap.size (.deferred (some [])))).le ((hf0.add hR).add (Heap.one w.heap.size (.deferred (some [])))) := Heap.add_le ((Heap.le_add_left _ _).tr (Heap.le_add_left _ _)) (Heap.le_add_right dFD)
    have dL3 : ∀ h : Heap, h.dj ho3 → h (w.heap.size + 1) = none := fun h d => by
      rcases d (w.heap.size + 1) with q | q
      · exact q
      · rw [mLo _ _ (one_at _ _)] at q; cases q
    have oA : gO.le ho3 := mO.tr mA
    have dOI : gI.dj gO := Heap.dj_symm (Heap.dj_le dAI mO (Heap.le_refl _))
    have dRx : hR.dj ho3 := Heap.dj_le e2 lR3 (Heap.le_refl _)
    have dOR : gO.dj hR := Heap.dj_symm (Heap.dj_le dRx (Heap.le_refl _) oA)
    have dIR3 : gI.dj hR := Heap.dj_symm (Heap.dj_le dRx (Heap.le_refl _) mI)
    have dI3 : gI.dj (gO.add hR) := Heap.dj_symm (Heap.add_dj (Heap.dj_symm dOI) (Heap.dj_symm dIR3))
    have nO : gO (w.heap.size + 1) = none := dj_at dLO3 (one_at _ _)
    have nI : gI (w.heap.size + 1) = none := by
      rcases dAI (w.heap.size + 1) with q | q
      · rw [mL _ _ (one_at _ _)] at q; cases q
      · exact q
    refine ⟨hl3, gI.add (gO.add hR), ?_, ?_⟩
    · refine ⟨put_le hs3.inp (dL3 _ hs3.dj), Heap.add_le (put_le (mI.tr hs3.ino) nI) (Heap.add_le (put_le (oA.tr hs3.ino) nO) (put_le (lR3.tr hfl3) (dL3 _ dRx))), ?_, hps3, ?_⟩
      · exact Heap.dj_symm (Heap.add_dj (Heap.dj_symm (Heap.dj_le hs3.dj (Heap.le_refl _) mI)) (Heap.add_dj (Heap.dj_symm (Heap.dj_le hs3.dj (Heap.le_refl _) oA)) (Heap.dj_le e1 lR3 (Heap.le_refl _))))
      · exact Sep.app (Heap.le_add_left _ _) (Heap.le_add_right dI3) dI3 sI3 (Sep.app (Heap.le_add_left _ _) (Heap.le_add_right dOR) dOR sO3 (Sep.up hle3 sR))
    · have dF1 : (hf0.add (Heap.one w.heap.size (.deferred (some [])))).dj ho3 := Heap.dj_le e2 lF3 (Heap.le_refl _)
      refine ⟨hb'.hp0.tr hle3, put_le (lF3.tr hfl3) (dL3 _ dF1), Heap.dj_le e1 lF3 (Heap.le_refl _), ?_, ((hb'.rest.trans hr0).trans hr3).trans put_rest⟩
      refine Heap.dj_symm (Heap.add_dj (Heap.dj_symm (Heap.dj_le dF1 (Heap.le_refl _) mI)) (Heap.add_dj (Heap.dj_symm (Heap.dj_le dF1 (Heap.le_refl _) oA)) ?_))
      exact Heap.dj_symm (Heap.add_dj fR (djD _ lR))
  have hfit : Fits (after ⟨P, fn, N, none, w0, hp0, hf0, Q, fin, pan, out⟩ w.heap.size).N E { a with defers := { target := .collected w.heap.size, args := #[] } :: a.defers } := ⟨hf.size, by show _ :: a.defers = _ :: N.ds; rw [hf.dfs], hf.at_⟩
  rcases hcase with ⟨xs, hxs, rfl⟩ | ⟨xs, hxs, rfl⟩
  · obtain ⟨hl3, hoN, k1, k2⟩ := key rec (O xs) (.loop { rec with state := .exhausted, pending := none }) hs3
    refine ⟨_, _, run_endLoop (P := P) hl3 (by rw [← hrec]; simp), ?_⟩
    rw [show rec.pending = none from by rw [← hrec]]
    exact done w.heap.size xs (Heap.dj_symm (djD _ hfw)) hxs _ _ hp3 hoN hfit k1 k2
  · obtain ⟨hl3, hoN, k1, k2⟩ := key _ (Ox xs) (.loop { state := .exhausted, pending := some .ret, fn := fnid, tmps := a.tmps, params := #[t], assign, body, defers := w.heap.size }) hs3
    refine ⟨_, _, run_endLoop (P := P) hl3 (by simp), ?_⟩
    exact stop w.heap.size xs (Heap.dj_symm (djD _ hfw)) hxs _ _ hp3 hoN hfit k1 k2
inductive EndM (C0 : Ctx) : Ctx → Prop
  | base : EndM C0 C0
  | mark {C : Ctx} {D : Nat} (h : EndM C0 C) (hd : C.hf.dj (Heap.one D (.deferred (some [])))) : EndM C0 (after C D)
theorem EndM.fin {C0 C : Ctx} (h : EndM C0 C) : C.fin = C0.fin ∧ C.P = C0.P ∧ C.fn = C0.fn := by
  induction h with
  | base => exact ⟨rfl, rfl, rfl⟩
  | mark h hd ih => exact ih
theorem leaves_marks {C0 : Ctx} (h0 : AtEnd C0) {E : Env} {Ps : List PA} {Os : List OA} {v : Value} (Ps' : List PA) (Os' : List OA) {r : List OA} (q : C0.Q v Ps' Os') (hP : Subs Ps Ps') (hO : Takes Os Os' r) {C : Ctx} (h : EndM C0 C) :
    (∀ (a : Act) (w : World) (hp ho : Heap), Fits C.N E a → Sat w hp ho Ps Os → (results C0.fn a.tmps).run C0.P w = .ok v w) → ∀ (a : Act) (w : World) (hp ho : Heap), Fits C.N E a → Sat w hp ho Ps Os → Base C w hp ho → LeavesInM Fence.wide 0 C0.P C0.fn a.tmps (endR C0.w0 C0.hp0 C0.hf C0.Q) a.defers .returning w := by
  induction h with
  | base =>
    intro hv a w hp ho hf hs hb
    have hd : a.defers = [] := hf.dfs.trans h0.2
    rw [hd]
    obtain ⟨h1, h2, a1, b, c1, d, e⟩ := Sep.takes hO hs.os
    exact ⟨v, hv a w hp ho hf hs, v, hp, ho, Ps', Os', rfl, q, ⟨hs.inp, hs.ino, hs.dj, (hs.ents hP.ents).ps, Sep.mono a1 d⟩, hb.hp0, hb.hf, hb.djp, hb.djo, hb.rest⟩
  | @mark C D h hd ih =>
    intro hv a w hp ho hf hs hb
    have ofF : C.hf.le (C.hf.add (Heap.one D (.deferred (some [])))) := Heap.le_add_left _ _
    have ofD : (Heap.one D (.deferred (some []))).le (C.hf.add (Heap.one D (.deferred (some [])))) := Heap.le_add_right hd
    have hDw : w.heap[D]? = some (.deferred (some [])) := hb.hf _ _ (ofD _ _ (one_at _ _))
    have nD : ∀ h : Heap, (C.hf.add (Heap.one D (.deferred (some [])))).dj h → h D = none := fun h d => dj_at (Heap.dj_le d ofD (Heap.le_refl _)) (one_at _ _)
    have sat2 : Sat (w.putObj D (.deferred none)) hp ho Ps Os := ⟨put_le hs.inp (nD _ hb.djp), put_le hs.ino (nD _ hb.djo), hs.dj, hs.ps, hs.os⟩
    have hds : a.defers = { target := .collected D, args := #[] } :: C.N.ds := hf.dfs
    have base2 : Base C (w.putObj D (.deferred none)) hp ho := ⟨hb.hp0, put_le (ofF.tr hb.hf) (dj_at (Heap.dj_symm hd) (one_at _ _)), Heap.dj_le hb.djp ofF (Heap.le_refl _), Heap.dj_le hb.djo ofF (Heap.le_refl _), hb.rest.trans put_rest⟩
    have h1 := ih (fun a w hp ho hf hs => hv { a with defers := { target := .collected D, args := #[] } :: C.N.ds } w hp ho ⟨hf.size, rfl, hf.at_⟩ hs) { a with defers := C.N.ds } _ hp ho ⟨hf.size, rfl, hf.at_⟩ sat2 base2
    rw [hds]
    exact ⟨by simp, .inl ⟨D, _, rfl, run_takeDeferred hDw, h1⟩⟩
theorem go_retN {C0 : Ctx} (h : EndM C0 C) (h0 : AtEnd C0) {v : Value} (Ps' : List PA) (Os' : List OA) {r : List OA} (hv : ∀ (a : Act) (w : World) (hp ho : Heap), Fits C.N E a → Sat w hp ho Ps Os → (results C.fn a.tmps).run C.P w = .ok v w)
    (q : C0.Q v Ps' Os') (hP : Subs Ps Ps') (hO : Takes Os Os' r) : Go C (.code .ret :: k) E Ps Os := fun a w hp ho hf hs hb =>
  wpIn_ret (by
    have := leaves_marks h0 Ps' Os' q hP hO h (fun a w hp ho hf hs => by have := hv a w hp ho hf hs; rw [h.fin.2.1, h.fin.2.2] at this; exact this) a w hp ho hf hs hb
    show den C.ro C.P C.fin k .ret a w
    rw [den_ret, h.fin.1, h0.1]
    exact this)
end
structure Li where
  no : Bool
  a : Am
  deriving DecidableEq
structure Cl where
  h : Am
  b : List Li
  deriving DecidableEq
def tLi : Ty Li := tIso (tPair tBool tAm) (fun x => (x.no, x.a))
def tCl : Ty Cl := tIso (tPair tAm (tSl tLi)) (fun x => (x.h, x.b))
theorem tLi_open {h : Heap} {x : Li} {cs : List Value} (r : tLi.rep h x cs) : ∃ A c, cs = [.bool x.no, .int .u32 x.a.p, .slice A x.a.a.length c] ∧ Sl tTm h A c x.a.a := by
  obtain ⟨a, b, e, h1, h2⟩ := r
  obtain ⟨A, c, rfl, h3⟩ := tAm_open h2
  cases h1
  exact ⟨A, c, e, h3⟩
theorem tLi_mk {h : Heap} {x : Li} {A : Option Addr} {c : Nat} (s : Sl tTm h A c x.a.a) : tLi.rep h x [.bool x.no, .int .u32 x.a.p, .slice A x.a.a.length c] := ⟨[_], [_, _], rfl, rfl, tAm_mk s⟩
theorem tCl_open {h : Heap} {x : Cl} {cs : List Value} (r : tCl.rep h x cs) : ∃ A c B d, cs = [.int .u32 x.h.p, .slice A x.h.a.length c, .slice B x.b.length d] ∧ Sl tTm h A c x.h.a ∧ Sl tLi h B d x.b := by
  obtain ⟨a, b, e, h1, B, d, h2, h3⟩ := r
  obtain ⟨A, c, rfl, h4⟩ := tAm_open h1
  cases h2
  exact ⟨A, c, B, d, e, h4, h3⟩
theorem tCl_mk {h : Heap} {x : Cl} {A : Option Addr} {c : Nat} {B : Option Addr} {d : Nat} (s : Sl tTm h A c x.h.a) (t : Sl tLi h B d x.b) : tCl.rep h x [.int .u32 x.h.p, .slice A x.h.a.length c, .slice B x.b.length d] := ⟨[_, _], [_], rfl, tAm_mk s, B, d, rfl, t⟩
section
variable {C : Ctx} {k : List It} {E : Env} {Ps : List PA} {Os : List OA}
theorem go_elem_li {A : Option Addr} {c : Nat} {xs : List Li} (h : sl tLi A c xs ∈ Ps) (j : Nat) {x : Li} (hj : xs[j]? = some x)
    (g : ∀ b o A' c', A = some ⟨b, o, none⟩ → Go C k E (cl b (o + j * 3) [.bool x.no, .int .u32 x.a.p, .slice A' x.a.a.length c'] :: sl tTm A' c' x.a.a :: Ps) Os) : Go C k E Ps Os :=
  go_elem h j hj fun b o cs e a w hp ho hf hs hb => by
    obtain ⟨A', c', hc, hsl⟩ := tLi_open (hs.ps (rp tLi x cs) (.tail _ (.head _)))
    subst hc
    exact g b o A' c' e a w hp ho hf ⟨hs.inp, hs.ino, hs.dj, forall_cons (hs.ps _ (.head _)) (forall_cons hsl fun p hq => hs.ps p (.tail _ (.tail _ hq))), hs.os⟩ hb
theorem go_elem_cl {A : Option Addr} {c : Nat} {xs : List Cl} (h : sl tCl A c xs ∈ Ps) (j : Nat) {x : Cl} (hj : xs[j]? = some x)
    (g : ∀ b o A' c' B' d', A = some ⟨b, o, none⟩ → Go C k E (cl b (o + j * 3) [.int .u32 x.h.p, .slice A' x.h.a.length c', .slice B' x.b.length d'] :: sl tTm A' c' x.h.a :: sl tLi B' d' x.b :: Ps) Os) : Go C k E Ps Os :=
  go_elem h j hj fun b o cs e a w hp ho hf hs hb => by
    obtain ⟨A', c', B', d', hc, hsl, hsm⟩ := tCl_open (hs.ps (rp tCl x cs) (.tail _ (.head _)))
    subst hc
    exact g b o A' c' B' d' e a w hp ho hf ⟨hs.inp, hs.ino, hs.dj, forall_cons (hs.ps _ (.head _)) (forall_cons hsl (forall_cons hsm fun p hq => hs.ps p (.tail _ (.tail _ hq)))), hs.os⟩ hb
theorem ent_cl {x : Cl} {A : Option Addr} {c : Nat} {B : Option Addr} {d : Nat} (h : sl tTm A c x.h.a ∈ Ps) (h2 : sl tLi B d x.b ∈ Ps) : Ent Ps (rp tCl x [.int .u32 x.h.p, .slice A x.h.a.length c, .slice B x.b.length d]) := fun hp a => tCl_mk (a _ h) (a _ h2)
end
def idxP {α : Type} (p : α → Bool) (l : List α) : Int := match l.findIdx? p with | some j => (j : Int) | none => -1
theorem idxP_hit {α : Type} {p : α → Bool} {l : List α} {k : Nat} (hk : k < l.length) (hz : ∀ y ∈ l.take k, p y = false) (e : p l[k] = true) : idxP p l = (k : Int) := by
  unfold idxP
  have : l.findIdx? p = some k := by
    rw [List.findIdx?_eq_some_iff_getElem]
    refine ⟨hk, e, fun j hj => ?_⟩
    have := hz l[j] (List.mem_take_iff_getElem.2 ⟨j, by omega, rfl⟩)
    simp [this]
  rw [this]
theorem idxP_none {α : Type} {p : α → Bool} {l : List α} {k : Nat} (hk : l.length ≤ k) (hz : ∀ y ∈ l.take k, p y = false) : idxP p l = -1 := by
  unfold idxP
  have : l.findIdx? p = none := by
    rw [List.findIdx?_eq_none_iff]
    intro y hy
    rw [List.take_of_length_le hk] at hz
    simpa using hz y hy
  rw [this]
theorem idxP_any {α : Type} (p : α → Bool) (l : List α) : l.any p = decide (0 ≤ idxP p l) := by
  unfold idxP
  cases e : l.findIdx? p with
  | none =>
    rw [List.findIdx?_eq_none_iff] at e
    simp only [List.any_eq]
    rw [decide_eq_decide]
    constructor
    · rintro ⟨x, hx, hp⟩; rw [e x hx] at hp; cases hp
    · intro h; omega
  | some j =>
    rw [List.findIdx?_eq_some_iff_getElem] at e
    obtain ⟨hj, hp, _⟩ := e
    simp only [List.any_eq]
    rw [decide_eq_decide]
    constructor
    · intro _; omega
    · intro _; exact ⟨l[j], List.getElem_mem _, hp⟩
structure CmpI (l ys : List Int) (k m i : Nat) : Prop where
  len : ys.length = l.length
  k1 : 1 ≤ k
  lo : k ≤ m
  hi : m ≤ k + i - 1
  i1 : 1 ≤ i
  i2 : k + i ≤ l.length
  un : ∀ j, k + i - 1 ≤ j → ys[j]? = l[j]?
  mem : ∀ x, x ∈ ys.take m ↔ x ∈ l.take (k + i)
theorem mem_take_succ {l : List Int} {k : Nat} (h : k < l.length) (x : Int) : x ∈ l.take (k + 1) ↔ x ∈ l.take k ∨ x = l[k] := by
  rw [List.take_succ_eq_append_getElem h, List.mem_append, List.mem_singleton]
theorem getElem_mem_take {l : List Int} {j k : Nat} (hj : j < k) (hl : j < l.length) : l[j] ∈ l.take k := List.mem_take_iff_getElem.2 ⟨j, by omega, rfl⟩
theorem CmpI.start {l : List Int} {k : Nat} (h1 : 1 ≤ k) (h2 : k < l.length) (e : l[k] = l[k - 1]) : CmpI l l k k 1 := by
  refine ⟨rfl, h1, Nat.le_refl _, by omega, Nat.le_refl _, by omega, fun _ _ => rfl, fun x => ?_⟩
  rw [mem_take_succ h2]
  refine ⟨.inl, fun h => h.elim id fun h => ?_⟩
  rw [h, e]; exact getElem_mem_take (by omega) (by omega)
theorem CmpI.get {l ys : List Int} {k m i : Nat} (h : CmpI l ys k m i) (j : Nat) (hj : k + i - 1 ≤ j) (hl : j < l.length) : ys[j]'(by rw [h.len]; exact hl) = l[j] := by
  have := h.un j hj
  rw [List.getElem?_eq_getElem (by rw [h.len]; exact hl), List.getElem?_eq_getElem hl] at this
  exact Option.some.inj this
theorem CmpI.skip {l ys : List Int} {k m i : Nat} (h : CmpI l ys k m i) (hk : k + i < l.length) (e : l[k + i] = l[k + i - 1]) : CmpI l ys k m (i + 1) := by
  refine ⟨h.len, h.k1, h.lo, by have := h.hi; omega, by omega, by omega, fun j hj => h.un j (by omega), fun x => ?_⟩
  rw [h.mem, ← Nat.add_assoc, mem_take_succ hk]
  refine ⟨.inl, fun g => g.elim id fun g => ?_⟩
  rw [g, e]; exact getElem_mem_take (by have := h.k1; omega) (by omega)
theorem CmpI.keep {l ys : List Int} {k m i : Nat} (h : CmpI l ys k m i) (hk : k + i < l.length) : CmpI l (ys.set m (ys[k + i]'(by rw [h.len]; exact hk))) k (m + 1) (i + 1) := by
  have h1 := h.hi
  have h2 := h.i1
  have hl := h.len
  refine ⟨by rw [List.length_set, h.len], h.k1, by have := h.lo; omega, by omega, by omega, by omega, fun j hj => ?_, fun x => ?_⟩
  · rw [List.getElem?_set_ne (by omega)]; exact h.un j (by omega)
  · rw [← Nat.add_assoc, mem_take_succ hk, ← h.mem, ← h.get (k + i) (by omega) hk]
    rw [mem_take_succ (by rw [List.length_set]; omega), List.take_set_of_le (Nat.le_refl _), List.getElem_set_self]
theorem CmpI.done {l ys : List Int} {k m i : Nat} (h : CmpI l ys k m i) (hk : l.length ≤ k + i) (x : Int) : x ∈ ys.take m ↔ x ∈ l := by
  rw [h.mem, List.take_of_length_le hk]
def mayA (a : Am) : Bool := decide (a.a.length ≤ 6) && !(a.a.any fun t => t.v && decide (16 ≤ t.n))
def mayC (c : Cl) : Bool := decide (c.b.length ≤ 8) && (mayA c.h && !(c.b.any fun l => !mayA l.a))
def ground (a : Am) : Bool := !(a.a.any fun t => t.v)
def vars (a : Am) : List Int := (a.a.filter (·.v)).map (·.n)
theorem vars_len (a : Am) (k : Nat) : (vars ⟨a.p, a.a.take k⟩).length ≤ a.a.length := by
  unfold vars
  rw [List.length_map]
  exact Nat.le_trans (List.length_filter_le _ _) (by simp; omega)
theorem vars_yes {a : Am} {k : Nat} (hk : k < a.a.length) (e : a.a[k].v = true) : vars ⟨a.p, a.a.take (k + 1)⟩ = vars ⟨a.p, a.a.take k⟩ ++ [a.a[k].n] := by
  unfold vars
  simp only
  rw [List.take_succ_eq_append_getElem hk, List.filter_append, List.map_append, List.filter_cons_of_pos (by exact e)]; rfl
theorem vars_no {a : Am} {k : Nat} (hk : k < a.a.length) (e : a.a[k].v = false) : vars ⟨a.p, a.a.take (k + 1)⟩ = vars ⟨a.p, a.a.take k⟩ := by
  unfold vars
  simp only
  rw [List.take_succ_eq_append_getElem hk, List.filter_append, List.filter_cons_of_neg (by rw [e]; simp)]; simp
def heldBy (c : Cl) : List Int := (c.b.filter fun l => !l.no).flatMap fun l => vars l.a
def heldC (c : Cl) : Bool := ((c.b.filter fun l => l.no).all fun l => (vars l.a).all fun v => decide (v ∈ heldBy c)) && (vars c.h).all fun v => decide (v ∈ heldBy c)
def Ones (m : List (Int × Value)) (s : List Int) : Prop := ∀ v, mget m v = if v ∈ s then some (.int .i64 1) else none
theorem Ones.nil : Ones [] [] := fun v => by simp [mget]
theorem Ones.set {m : List (Int × Value)} {s : List Int} (h : Ones m s) (v : Int) : Ones (mset m v (.int .i64 1)) (v :: s) := fun x => by
  rw [mget_mset, h x]
  by_cases e : x = v
  · simp [e]
  · simp [e]
theorem Ones.same {m : List (Int × Value)} {s t : List Int} (h : Ones m s) (e : ∀ x, x ∈ s ↔ x ∈ t) : Ones m t := fun x => by rw [h x]; simp [e x]
abbrev Lens := Int → Option Int
def Lens.Is (m : List (Int × Value)) (L : Lens) : Prop := ∀ p, mget m p = (L p).map (.int .i64)
def fitB (L : Lens) (p n : Int) : Bool := match L p with | none => true | some k => decide (k = n)
def learn (L : Lens) (p n : Int) : Lens := fun q => if q = p ∧ L p = none then some n else L q
theorem Lens.Is.nil : Lens.Is [] (fun _ => none) := fun p => rfl
theorem Lens.Is.new {m : List (Int × Value)} {L : Lens} (h : Lens.Is m L) {p : Int} (e : L p = none) (n : Int) : Lens.Is (mset m p (.int .i64 n)) (learn L p n) := fun q => by
  rw [mget_mset, h q]
  unfold learn
  by_cases c : q = p
  · subst c; simp [e]
  · simp [c]
theorem learn_old {L : Lens} {p n k : Int} (e : L p = some k) : learn L p n = L := by
  funext q; unfold learn; rw [if_neg (by rw [e]; simp)]
def stepL (x : Bool × Lens) (a : Am) : Bool × Lens := (fitB x.2 a.p a.a.length && x.1, learn x.2 a.p a.a.length)
def clauseL (L : Lens) (c : Cl) : Bool × Lens := c.b.foldl (fun x l => stepL x l.a) (stepL (true, L) c.h)
theorem clause_next {L : Lens} {h : Am} {b : List Li} {k : Nat} (hk : k < b.length) : clauseL L ⟨h, b.take (k + 1)⟩ = stepL (clauseL L ⟨h, b.take k⟩) b[k].a := by
  unfold clauseL
  simp only
  rw [List.take_succ_eq_append_getElem hk, List.foldl_append]; rfl
abbrev Ax := Am × Option Addr × Nat
def encA (x : Ax) : Value := .agg #[.int .u32 x.1.p, .slice x.2.1 x.1.a.length x.2.2]
def pxA (pre : List Ax) (x : Ax) : List PA := [PA.and (x.1.a.length ≤ 12) (sl tTm x.2.1 x.2.2 x.1.a)]
def litsOf (b : List Li) (nt : Bool) : List Am := (b.filter fun l => l.no == nt).map (·.a)
theorem lits_yes {b : List Li} {nt : Bool} {k : Nat} (hk : k < b.length) (e : b[k].no = nt) : litsOf (b.take (k + 1)) nt = litsOf (b.take k) nt ++ [b[k].a] := by
  unfold litsOf
  rw [List.take_succ_eq_append_getElem hk, List.filter_append, List.map_append, List.filter_cons_of_pos (by simpa using e)]; rfl
theorem lits_no {b : List Li} {nt : Bool} {k : Nat} (hk : k < b.length) (e : ¬ b[k].no = nt) : litsOf (b.take (k + 1)) nt = litsOf (b.take k) nt := by
  unfold litsOf
  rw [List.take_succ_eq_append_getElem hk, List.filter_append, List.filter_cons_of_neg (by simpa using e)]; simp
theorem lits_mem {b : List Li} {nt : Bool} {k : Nat} {a : Am} (h : a ∈ litsOf (b.take k) nt) : a ∈ litsOf b nt := by
  unfold litsOf at *
  rw [List.mem_map] at *
  obtain ⟨l, h1, h2⟩ := h
  rw [List.mem_filter] at h1
  exact ⟨l, List.mem_filter.2 ⟨List.mem_of_mem_take h1.1, h1.2⟩, h2⟩
def badC (L : Lens) (c : Cl) : Int := if mayC c = false then 8 else if heldC c = false then 10 else if (clauseL L c).1 = false then 9 else 0
def rightF (L : Lens) : List Cl → Nat → Int × Int
  | [], _ => (0, 0)
  | c :: l, i => if badC L c = 0 then rightF (clauseL L c).2 l (i + 1) else ((i : Int), badC L c)
def rightC (l : List Cl) : Int × Int := if 400 < l.length then (0, 6) else rightF (fun _ => none) l 0
theorem may_len {c : Cl} (h : mayC c = true) : c.h.a.length ≤ 12 ∧ ∀ l ∈ c.b, l.a.a.length ≤ 12 := by
  unfold mayC at h
  simp only [Bool.and_eq_true, decide_eq_true_eq, Bool.not_eq_true', List.any_eq_false, Bool.not_eq_true, Bool.not_eq_false'] at h
  have key : ∀ a : Am, mayA a = true → a.a.length ≤ 12 := fun a ha => by
    unfold mayA at ha
    simp only [Bool.and_eq_true, decide_eq_true_eq] at ha
    omega
  exact ⟨key _ h.2.1, fun l hl => key _ (by simpa using h.2.2 l hl)⟩
theorem right_bad {L : Lens} {l : List Cl} {k : Nat} (hk : k < l.length) (h : badC L l[k] ≠ 0) : rightF L (l.drop k) k = ((k : Int), badC L l[k]) := by
  rw [List.drop_eq_getElem_cons hk, rightF, if_neg h]
theorem right_ok {L : Lens} {l : List Cl} {k : Nat} (hk : k < l.length) (h : badC L l[k] = 0) : rightF L (l.drop k) k = rightF (clauseL L l[k]).2 (l.drop (k + 1)) (k + 1) := by
  rw [List.drop_eq_getElem_cons hk, rightF, if_pos h]
def ofA (a : Am) : Fa := if ground a = true then ⟨a.p, a.a.map (·.n)⟩ else ⟨0, []⟩
def putT (few : List Int) (is : List Bool) (t : Tm) : Tm := if t.v = true ∧ is[t.n.toNat]? = some true then ⟨false, (few[t.n.toNat]?).getD 0⟩ else t
def putA (few : List Int) (is : List Bool) (a : Am) : Am := ⟨a.p, a.a.map (putT few is)⟩
theorem putT_no {few : List Int} {is : List Bool} {t : Tm} (h : t.v = false) : putT few is t = t := by unfold putT; rw [h]; simp
theorem putT_free {few : List Int} {is : List Bool} {t : Tm} {j : Nat} (hj : j < is.length) (e : t.n = (j : Int)) (h : is[j] = false) : putT few is t = t := by
  unfold putT; rw [e, Int.toNat_natCast, List.getElem?_eq_getElem hj, h]; simp
theorem putT_yes {few : List Int} {is : List Bool} {t : Tm} {j : Nat} (hv : t.v = true) (hf : j < few.length) (hj : j < is.length) (e : t.n = (j : Int)) (h : is[j] = true) : putT few is t = ⟨false, few[j]⟩ := by
  unfold putT; rw [e, Int.toNat_natCast, List.getElem?_eq_getElem hj, h, List.getElem?_eq_getElem hf]; simp [hv]
def meetL (f : List Int) : List Int × List Bool → List Tm → Nat → List Int × List Bool
  | x, [], _ => x
  | x, t :: l, i => meetL f (if t.v = true then (x.1.set t.n.toNat ((f[i]?).getD 0), x.2.set t.n.toNat true) else x) l (i + 1)
end Go.Proofs.YtdconhalfanclaaGreat.SL
namespace Go.Proofs.YtdconhalfanclaaGreat.SL
open Go
def SoTm (g : FuncId) (p : Tm → Bool) : Prop := ∀ t : Tm, Spec Tryz.prog g #[Value.agg #[.bool t.v, .int .u32 t.n]] [] [] (fun v Ps' Os' => v = .bool (p t) ∧ Ps' = [] ∧ Os' = [])
def SoLi (g : FuncId) (p : Li → Bool) : Prop := ∀ (x : Li) (A : Option Addr) (c : Nat), Spec Tryz.prog g #[Value.agg #[.bool x.no, .int .u32 x.a.p, .slice A x.a.a.length c]] [sl tTm A c x.a.a] [] (fun v Ps' Os' => v = .bool (p x) ∧ Ps' = [] ∧ Os' = [])
theorem indexFTm (L : Option Addr) (lc : Nat) (l : List Tm) (g : FuncId) (p : Tm → Bool) (hso : SoTm g p) :
    Spec Tryz.prog 165 #[.slice L l.length lc, .func (.func g) #[] #[]] [sl tTm L lc l] [] (fun v Ps' Os' => v = .int .i64 (idxP p l) ∧ Ps' = [] ∧ Os' = []) := by
 refine zSp _ Tryz.func165 Tryz.ntmps165 (fun _ _ _ => ?_)
 refine zR 1 ?_
 refine go_len (xs := l) zM (fun l0 m0 => ?_)
 refine zR 11 ?_
 refine zO (X := Nat) (fun k => [(8, .int .i64 (k : Int))]) [0, 1, 7] (fun _ => []) (fun k => k ≤ l.length ∧ ∀ y ∈ l.take k, p y = false) (fun k => l.length - k) 0 ⟨by omega, by simp⟩ ?_
 intro k ⟨hk, hz⟩
 refine zD' 5 ?_ ?_
 ·intro hq1
  refine zT 5 rfl ⟨by rw [idxP_none (by omega) hz], rfl, rfl⟩
 intro hq1
 refine zR 9 ?_
 refine go_elem_tm (xs := l) zM (k) (List.getElem?_eq_getElem (by omega)) (fun b0 o0 hA => ?_); cases hA
 refine zI 4 ?_
 refine zL 0 ?_
 refine zC3 0 (hso l[k]) ?_
 refine zB 1 ?_ ?_
 ·intro g1
  (try simp only [dcs, ne_eq] at g1)
  refine zE 5 [4] ?_
  refine zT 0 rfl ⟨by rw [idxP_hit (by omega) hz g1], rfl, rfl⟩
 intro g1
 (try simp only [dcs, ne_eq] at g1)
 refine zR 6 ?_
 refine zi 8 ?_
 refine zz (k + 1) (⟨by omega, mem_take_next' (by omega) hz g1⟩) (by omega)
theorem containsTm (L : Option Addr) (lc : Nat) (l : List Tm) (g : FuncId) (p : Tm → Bool) (hso : SoTm g p) :
    Spec Tryz.prog 146 #[.slice L l.length lc, .func (.func g) #[] #[]] [sl tTm L lc l] [] (fun v Ps' Os' => v = .bool (l.any p) ∧ Ps' = [] ∧ Os' = []) := by
 refine zSp _ Tryz.func146 Tryz.ntmps146 (fun _ _ _ => ?_)
 refine zC3 8 (indexFTm L lc l g p hso) ?_
 refine zT 3 rfl ⟨congrArg Value.bool (idxP_any p l).symm, rfl, rfl⟩
theorem indexFLi (L : Option Addr) (lc : Nat) (l : List Li) (g : FuncId) (p : Li → Bool) (hso : SoLi g p) :
    Spec Tryz.prog 148 #[.slice L l.length lc, .func (.func g) #[] #[]] [sl tLi L lc l] [] (fun v Ps' Os' => v = .int .i64 (idxP p l) ∧ Ps' = [] ∧ Os' = []) := by
 refine zSp _ Tryz.func148 Tryz.ntmps148 (fun _ _ _ => ?_)
 refine zR 1 ?_
 refine go_len (xs := l) zM (fun l0 m0 => ?_)
 refine zR 11 ?_
 refine zO (X := Nat) (fun k => [(8, .int .i64 (k : Int))]) [0, 1, 7] (fun _ => []) (fun k => k ≤ l.length ∧ ∀ y ∈ l.take k, p y = false) (fun k => l.length - k) 0 ⟨by omega, by simp⟩ ?_
 intro k ⟨hk, hz⟩
 refine zD' 5 ?_ ?_
 ·intro hq1
  refine zT 5 rfl ⟨by rw [idxP_none (by omega) hz], rfl, rfl⟩
 intro hq1
 refine zR 9 ?_
 refine go_elem_li (xs := l) zM (k) (List.getElem?_eq_getElem (by omega)) (fun b0 o0 A0 c0 hA => ?_); cases hA
 refine zI 4 ?_
 refine zL 0 ?_
 refine zC3 0 (hso l[k] A0 c0) ?_
 refine zB 1 ?_ ?_
 ·intro g1
  (try simp only [dcs, ne_eq] at g1)
  refine zE 5 [4] ?_
  refine zT 0 rfl ⟨by rw [idxP_hit (by omega) hz g1], rfl, rfl⟩
 intro g1
 (try simp only [dcs, ne_eq] at g1)
 refine zR 6 ?_
 refine zi 8 ?_
 refine zz (k + 1) (⟨by omega, mem_take_next' (by omega) hz g1⟩) (by omega)
theorem containsLi (L : Option Addr) (lc : Nat) (l : List Li) (g : FuncId) (p : Li → Bool) (hso : SoLi g p) :
    Spec Tryz.prog 121 #[.slice L l.length lc, .func (.func g) #[] #[]] [sl tLi L lc l] [] (fun v Ps' Os' => v = .bool (l.any p) ∧ Ps' = [] ∧ Os' = []) := by
 refine zSp _ Tryz.func121 Tryz.ntmps121 (fun _ _ _ => ?_)
 refine zC3 8 (indexFLi L lc l g p hso) ?_
 refine zT 3 rfl ⟨congrArg Value.bool (idxP_any p l).symm, rfl, rfl⟩
theorem mayAtom1 (t : Tm) :
    Spec Tryz.prog 147 #[.agg #[.bool t.v, .int .u32 t.n]] [] [] (fun v Ps' Os' => v = .bool (t.v && decide (16 ≤ t.n)) ∧ Ps' = [] ∧ Os' = []) := by
 refine zSp _ Tryz.func147 Tryz.ntmps147 (fun _ _ _ => ?_)
 refine zX 2 ?_
 intro b1
 refine zL 5 ?_
 refine zG' 1 5 ?_ ?_
 ·intro g1
  (try simp only [dcs, ne_eq] at g1)
  refine zT 6 rfl ⟨by rw [g1]; rfl, rfl, rfl⟩
 intro g1
 (try simp only [dcs, ne_eq] at g1)
 refine zL 1 ?_
 refine zT 4 rfl ⟨by rw [g1]; rfl, rfl, rfl⟩
theorem ground1 (t : Tm) :
    Spec Tryz.prog 198 #[.agg #[.bool t.v, .int .u32 t.n]] [] [] (fun v Ps' Os' => v = .bool t.v ∧ Ps' = [] ∧ Os' = []) := by
 refine zSp _ Tryz.func198 Tryz.ntmps198 (fun _ _ _ => ?_)
 refine zX 2 ?_
 intro b1
 refine zL 5 ?_
 refine zT 2 rfl ⟨rfl, rfl, rfl⟩
theorem mayAtom (a : Am) (AA : Option Addr) (ac : Nat) :
    Spec Tryz.prog 120 #[.agg #[.int .u32 a.p, .slice AA a.a.length ac]] [sl tTm AA ac a.a] [] (fun v Ps' Os' => v = .bool (mayA a) ∧ Ps' = [] ∧ Os' = []) := by
 refine zSp _ Tryz.func120 Tryz.ntmps120 (fun _ _ _ => ?_)
 refine zX 2 ?_
 intro b1
 refine zR 3 ?_
 refine go_len (xs := a.a) zM (fun l0 m0 => ?_)
 refine zL 2 ?_
 refine zG' 3 7 ?_ ?_
 ·intro g1
  (try simp only [dcs, ne_eq] at g1)
  refine zE 7 [2] ?_
  refine zT 0 rfl ⟨by unfold mayA; rw [decide_eq_false (by omega)]; rfl, rfl, rfl⟩
 intro g1
 (try simp only [dcs, ne_eq] at g1)
 refine zL 1 ?_
 refine zC3 0 (containsTm AA ac a.a 147 _ (fun t => mayAtom1 t)) ?_
 refine zE 4 [2] ?_
 refine zT 0 rfl ⟨by unfold mayA; rw [decide_eq_true (by omega)]; rfl, rfl, rfl⟩
theorem may1 (x : Li) (A : Option Addr) (c : Nat) :
    Spec Tryz.prog 122 #[.agg #[.bool x.no, .int .u32 x.a.p, .slice A x.a.a.length c]] [sl tTm A c x.a.a] [] (fun v Ps' Os' => v = .bool (!mayA x.a) ∧ Ps' = [] ∧ Os' = []) := by
 refine zSp _ Tryz.func122 Tryz.ntmps122 (fun _ _ _ => ?_)
 refine zX 2 ?_
 intro b1
 refine zL 5 ?_
 refine zC3 0 (mayAtom x.a A c) ?_
 refine zT 3 rfl ⟨rfl, rfl, rfl⟩
theorem may (c : Cl) (CA : Option Addr) (cc : Nat) (CB : Option Addr) (cd : Nat) :
    Spec Tryz.prog 90 #[.agg #[.int .u32 c.h.p, .slice CA c.h.a.length cc, .slice CB c.b.length cd]] [sl tTm CA cc c.h.a, sl tLi CB cd c.b] [] (fun v Ps' Os' => v = .bool (mayC c) ∧ Ps' = [] ∧ Os' = []) := by
 refine zSp _ Tryz.func90 Tryz.ntmps90 (fun _ _ _ => ?_)
 refine zX 2 ?_
 intro b1
 refine zR 3 ?_
 refine go_len (xs := c.b) zM (fun l0 m0 => ?_)
 refine zL 2 ?_
 refine zG' 3 7 ?_ ?_
 ·intro g1
  (try simp only [dcs, ne_eq] at g1)
  refine zE 12 [2] ?_
  refine zT 0 rfl ⟨by unfold mayC; rw [decide_eq_false (by omega)]; rfl, rfl, rfl⟩
 intro g1
 (try simp only [dcs, ne_eq] at g1)
 refine zL 1 ?_
 refine zC3 0 (mayAtom c.h CA cc) ?_
 refine zG' 2 12 ?_ ?_
 ·intro g2
  (try simp only [dcs, ne_eq] at g2)
  refine zE 7 [2] ?_
  refine zT 0 rfl ⟨by unfold mayC; rw [decide_eq_true (by omega), g2]; rfl, rfl, rfl⟩
 intro g2
 (try simp only [dcs, ne_eq] at g2)
 refine zL 1 ?_
 refine zC3 0 (containsLi CB cd c.b 122 _ (fun x A c => may1 x A c)) ?_
 refine zE 4 [2] ?_
 refine zT 0 rfl ⟨by unfold mayC; rw [decide_eq_true (by omega), g2]; rfl, rfl, rfl⟩
theorem groundA (a : Am) (AA : Option Addr) (ac : Nat) :
    Spec Tryz.prog 187 #[.agg #[.int .u32 a.p, .slice AA a.a.length ac]] [sl tTm AA ac a.a] [] (fun v Ps' Os' => v = .bool (ground a) ∧ Ps' = [] ∧ Os' = []) := by
 refine zSp _ Tryz.func187 Tryz.ntmps187 (fun _ _ _ => ?_)
 refine zX 2 ?_
 intro b1
 refine zL 5 ?_
 refine zC3 0 (containsTm AA ac a.a 198 _ (fun t => ground1 t)) ?_
 refine zT 3 rfl ⟨rfl, rfl, rfl⟩
theorem lessU (x y : Int) :
    Spec Tryz.prog 172 #[.int .u32 x, .int .u32 y] [] [] (fun v Ps' Os' => v = .bool (decide (x < y)) ∧ Ps' = [] ∧ Os' = []) := by
 refine zSp _ Tryz.func172 Tryz.ntmps172 (fun _ _ _ => ?_)
 refine zC3 7 (isNaN_u32 _) ?_
 refine zE 12 [4] ?_
 refine zT 0 rfl ⟨rfl, rfl, rfl⟩
theorem isortU (A : Option Addr) (c : Nat) (l : List Int) (hn : l.length ≤ 12) :
    Spec Tryz.prog 166 #[.slice A l.length c, .int .i64 0, .int .i64 (l.length : Int)] [] [ol tU 26 A c l] (fun v Ps' Os' => ∃ m, m.Perm l ∧ v = .tuple #[] ∧ Ps' = [] ∧ Os' = [ol tU 26 A c m]) := by
 refine zSp _ Tryz.func166 Tryz.ntmps166 (fun _ _ _ => ?_)
 refine zR 5 ?_
 refine go_re 6 (.int .i64 ((1 : Nat) : Int)) rfl ?_
 refine zR 2 ?_
 refine zO (X := Nat × List Int) (fun x => [(6, .int .i64 (x.1 : Int))]) [0, 1, 2] (fun x => [ol tU 26 A c x.2]) (fun x => x.1 ≤ l.length + 1 ∧ x.2.Perm l) (fun x => l.length + 1 - x.1) (1, l) ⟨by omega, .refl _⟩ ?_
 intro ⟨i, xs⟩ ⟨hi, hp⟩
 simp only at hi hp ⊢
 have hxl := hp.length_eq
 refine zD' 7 ?_ ?_
 ·intro hq1
  refine zT 1 rfl ⟨xs, hp, rfl, rfl, rfl⟩
 intro hq1
 refine zR 4 ?_
 refine go_ol_addr (xs := xs) zM (by omega) (fun bL hL => ?_); subst hL
 refine zR 5 ?_
 refine zO (X := Nat × List Int) (fun x => [(7, .int .i64 (x.1 : Int))]) [0, 1, 2, 6] (fun x => [ol tU 26 (some ⟨bL, 0, none⟩) c x.2]) (fun x => x.1 ≤ i ∧ x.2.Perm l) (fun x => x.1) (i, xs) ⟨Nat.le_refl _, hp⟩ ?_
 intro ⟨j, ys⟩ ⟨hj, hq⟩
 simp only at hj hq ⊢
 have hyl := hq.length_eq
 refine zY 2 [1, 4, 7, 10, 13, 16, 19, 25, 28, 31, 34, 23, 38, 39, 43] ?_
 refine zG' 4 19 ?_ ?_
 ·intro g1
  (try simp only [dcs, ne_eq] at g1)
  refine zJ 7 ?_
  refine zJ 0 ?_
  refine zDf 3 ?_
  refine zR 7 ?_
  refine zi 6 ?_
  refine zz (i + 1, ys) ⟨by show i + 1 ≤ _; omega, hq⟩ (by show l.length + 1 - (i + 1) < l.length + 1 - i; omega)
 intro g1
 (try simp only [dcs, ne_eq] at g1)
 refine zI 2 ?_
 refine zR 3 ?_
 refine zi 26 ?_
 refine go_re 26 (.int .i64 ((j - 1 : Nat) : Int)) (by show some (Value.int _ _) = _; rw [show ((j - 1 : Nat) : Int) = (j : Int) - 1 by omega]) ?_
 refine zI 0 ?_
 refine go_val2a rfl (load_val (cs := [.int .u32 ys[j]]) Tk rfl rfl rfl (at_ol (fun y : Int => [.int .u32 y]) fc_int 0 (xs := ys) zM (List.getElem?_eq_getElem (by omega)) rfl) rfl) rfl ?_
 refine go_val2a rfl (load_val (cs := [.int .u32 ys[j - 1]]) Tk rfl rfl rfl (at_ol (fun y : Int => [.int .u32 y]) fc_int 0 (xs := ys) zM (List.getElem?_eq_getElem (by omega)) rfl) rfl) rfl ?_
 refine zC3 0 (lessU _ _) ?_
 refine zB' 2 ?_ ?_
 ·intro g2
  (try simp only [dcs, ne_eq] at g2)
  refine zR 7 ?_
  refine zi 6 ?_
  refine zz (i + 1, ys) ⟨by show i + 1 ≤ _; omega, hq⟩ (by show l.length + 1 - (i + 1) < l.length + 1 - i; omega)
 intro g2
 (try simp only [dcs, ne_eq] at g2)
 refine zY 3 [1, 4, 7, 10, 13, 16, 19, 22, 25, 31, 34, 37, 29, 41, 43, 45, 49, 51] ?_
 refine zR 5 ?_
 refine zi 37 ?_
 refine go_re 37 (.int .i64 ((j - 1 : Nat) : Int)) (by show some (Value.int _ _) = _; rw [show ((j - 1 : Nat) : Int) = (j : Int) - 1 by omega]) ?_
 refine zR 3 ?_
 refine zi 40 ?_
 refine go_re 40 (.int .i64 ((j - 1 : Nat) : Int)) (by show some (Value.int _ _) = _; rw [show ((j - 1 : Nat) : Int) = (j : Int) - 1 by omega]) ?_
 refine zI 0 ?_
 refine zI 2 ?_
 refine go_val2a rfl (load_val (cs := [.int .u32 ys[j - 1]]) Tk rfl rfl rfl (at_ol (fun y : Int => [.int .u32 y]) fc_int 0 (xs := ys) zM (List.getElem?_eq_getElem (by omega)) rfl) rfl) rfl ?_
 refine go_val2a rfl (load_val (cs := [.int .u32 ys[j]]) Tk rfl rfl rfl (at_ol (fun y : Int => [.int .u32 y]) fc_int 0 (xs := ys) zM (List.getElem?_eq_getElem (by omega)) rfl) rfl) rfl ?_
 refine zI 0 ?_
 refine zSE 0 tU ys j (ys[j - 1]) ent_int ?_
 refine zI 0 ?_
 refine go_store_el (T := tU) (xs := ys.set j ys[j - 1]) (j := j - 1) Tk (ys[j]) rfl rfl rfl rfl rfl rfl zM (by rw [List.length_set]; omega) rfl rfl ent_int zQ ?_
 refine zE 1 [0, 1, 2, 6, 7, 20, 21, 22, 23, 24, 25, 26, 27, 28, 29] ?_
 refine zR 5 ?_
 refine zi 7 ?_
 refine go_re 7 (.int .i64 ((j - 1 : Nat) : Int)) (by show some (Value.int _ _) = _; rw [show ((j - 1 : Nat) : Int) = (j : Int) - 1 by omega]) ?_
 refine zR 1 ?_
 refine zz (j - 1, (ys.set j ys[j - 1]).set (j - 1) ys[j]) ⟨by show j - 1 ≤ i; omega, (List.set_set_perm _ _).trans hq⟩ (by show j - 1 < j; omega)
theorem pdqU (A : Option Addr) (c : Nat) (l : List Int) (r : Int) (hn : l.length ≤ 12) :
    Spec Tryz.prog 151 #[.slice A l.length c, .int .i64 0, .int .i64 (l.length : Int), .int .i64 r] [] [ol tU 26 A c l] (fun v Ps' Os' => ∃ m, m.Perm l ∧ v = .tuple #[] ∧ Ps' = [] ∧ Os' = [ol tU 26 A c m]) := by
 refine zSp _ Tryz.func151 Tryz.ntmps151 (fun _ _ _ => ?_)
 refine zR 9 ?_
 refine zO (X := Unit) (fun _ => [(0, .slice A l.length c), (1, .int .i64 0), (2, .int .i64 (l.length : Int)), (3, .int .i64 r), (8, .bool true), (9, .bool true)]) [] (fun _ => []) (fun _ => True) (fun _ => 0) () trivial ?_
 intro ⟨⟩ hJ
 refine zR 6 ?_
 refine zi 21 ?_
 refine zR 7 ?_
 refine go_re 23 (.bool true) (by show some (Value.bool _) = _; rw [decide_eq_true (by omega)]) ?_
 refine zDt 1 ?_
 refine zC 5 (isortU A c l hn) ?_
 rintro _ _ _ ⟨m, hm, rfl, rfl, rfl⟩
 refine zE 1 [] ?_
 refine zT 0 rfl ⟨m, hm, rfl, rfl, rfl⟩
open Go.Shelf Go.RowKit Go.Lib in
def Tryz.lays125_ren : Go.Shelf.Ren := ⟨fun | 125 => 152 | 128 => 175 | 129 => 176 | n => n, fun | 46 => 217 | 3 => 3 | 51 => 26 | 53 => 94 | 4 => 4 | 5 => 5 | 9 => 9 | n => n, fun | n => n⟩
open Go.Shelf Go.RowKit Go.Lib in
theorem Tryz.lays125 : Go.Proofs.Lays.n125 Tryz.prog Tryz.lays125_ren := {
  mixed := by kernel_rfl
  f125 := Tryz.func152.trans (congrArg some (by kernel_rfl))
  f128 := Tryz.func175.trans (congrArg some (by kernel_rfl))
  f129 := Tryz.func176.trans (congrArg some (by kernel_rfl))
  t3 := Tryz.underlying3
  a3 := Tryz.isAgg3
  z3 := Tryz.sizeOf3
  v3 := Tryz.zeroValue3
  t4 := Tryz.underlying4
  a4 := Tryz.isAgg4
  z4 := Tryz.sizeOf4
  v4 := Tryz.zeroValue4
  t5 := Tryz.underlying5
  a5 := Tryz.isAgg5
  z5 := Tryz.sizeOf5
  v5 := Tryz.zeroValue5
  t9 := Tryz.underlying9
  a9 := Tryz.isAgg9
  z9 := Tryz.sizeOf9
  v9 := Tryz.zeroValue9
  t46 := Tryz.underlying217
  a46 := Tryz.isAgg217
  z46 := Tryz.sizeOf217
  v46 := Tryz.zeroValue217
  t51 := Tryz.underlying26
  a51 := Tryz.isAgg26
  z51 := Tryz.sizeOf26
  v51 := Tryz.zeroValue26
  t53 := Tryz.underlying94
  a53 := Tryz.isAgg94
  z53 := Tryz.sizeOf94
  v53 := Tryz.zeroValue94 }
theorem bitsLen (x : Int) (h0 : 0 ≤ x) (h1 : x ≤ 18446744073709551615) : Spec Tryz.prog 152 #[.int .u64 x] [] [] (fun v Ps' Os' => v = .int .i64 (Lib.bitLen x.toNat) ∧ Ps' = [] ∧ Os' = []) := by
  refine ⟨⟨_, Tryz.func152, by kernel_rfl, by kernel_rfl⟩, fun w hp ho hf hs hfw d1 d2 => ?_⟩
  have hcon := Any.bits_Len Tryz.lays125 x w h0 h1
  change Calls Tryz.prog 152 _ _ _ at hcon
  refine hcon.mono ?_
  rintro e w' ⟨rfl, rfl⟩
  exact ⟨_, hp, ho, [], [], rfl, ⟨rfl, rfl, rfl⟩, hs, Heap.le_refl _, hfw, d1, d2, .refl _⟩
theorem sortU (A : Option Addr) (c : Nat) (l : List Int) (hn : l.length ≤ 12) :
    Spec Tryz.prog 128 #[.slice A l.length c] [] [ol tU 26 A c l] (fun v Ps' Os' => ∃ m, m.Perm l ∧ v = .tuple #[] ∧ Ps' = [] ∧ Os' = [ol tU 26 A c m]) := by
 refine zSp _ Tryz.func128 Tryz.ntmps128 (fun _ _ _ => ?_)
 refine zR 1 ?_
 refine go_len_ol (xs := l) zM (fun l0 m0 => ?_)
 refine zR 10 ?_
 refine go_re 8 (.int .u64 (l.length : Int)) (by show some (Value.int _ _) = _; rw [wrap_u64 (by omega)]) ?_
 refine zC3 0 (bitsLen (l.length : Int) (by omega) (by omega)) ?_
 refine zC 0 (pdqU A c l _ hn) ?_
 rintro _ _ _ ⟨m, hm, rfl, rfl, rfl⟩
 refine zT 1 rfl ⟨m, hm, rfl, rfl, rfl⟩
theorem compactU (A : Option Addr) (c : Nat) (l : List Int) (hn : l.length ≤ 1000000) :
    Spec Tryz.prog 129 #[.slice A l.length c] [] [ol tU 26 A c l] (fun v Ps' Os' => ∃ m, (∀ x, x ∈ m ↔ x ∈ l) ∧ m.length ≤ l.length ∧ v = .slice A m.length c ∧ Ps' = [] ∧ Os' = [ol tU 26 A c m]) := by
 refine zSp _ Tryz.func129 Tryz.ntmps129 (fun _ _ _ => ?_)
 refine zR 1 ?_
 refine go_len_ol (xs := l) zM (fun l0 m0 => ?_)
 refine zD 10 ?_ ?_
 ·intro h1
  refine zT 5 rfl ⟨l, fun _ => .rfl, Nat.le_refl _, rfl, rfl, rfl⟩
 intro h1
 refine go_ol_addr (xs := l) zM (by omega) (fun bL hL => ?_); subst hL
 refine zR 7 ?_
 refine zO (X := Nat) (fun k => [(3, .int .i64 (k : Int))]) [0] (fun _ => []) (fun k => k ≤ l.length ∧ 1 ≤ k) (fun k => l.length - k) 1 ⟨by omega, by omega⟩ ?_
 intro k ⟨hk, hk1⟩
 refine zD' 8 ?_ ?_
 ·intro hq1
  refine zT 6 rfl ⟨l, fun _ => .rfl, Nat.le_refl _, rfl, rfl, rfl⟩
 intro hq1
 refine zY 4 [1, 4, 7, 13, 16, 19, 22, 11, 26, 28] ?_
 refine zI 2 ?_
 refine zR 3 ?_
 refine zi 22 ?_
 refine go_re 22 (.int .i64 ((k - 1 : Nat) : Int)) (by show some (Value.int _ _) = _; rw [show ((k - 1 : Nat) : Int) = (k : Int) - 1 by omega]) ?_
 refine zI 0 ?_
 refine go_val2a rfl (load_val (cs := [.int .u32 l[k]]) Tk rfl rfl rfl (at_olp (fun y : Int => [.int .u32 y]) fc_int (xs := l) zM (k) (List.getElem?_eq_getElem (by omega)) rfl rfl) rfl) rfl ?_
 refine go_val2a rfl (load_val (cs := [.int .u32 l[k - 1]]) Tk rfl rfl rfl (at_olp (fun y : Int => [.int .u32 y]) fc_int (xs := l) zM (k - 1) (List.getElem?_eq_getElem (by omega)) rfl rfl) rfl) rfl ?_
 refine zE 2 [0, 3, 25] ?_
 refine zD' 0 ?_ ?_
 ·intro g1
  refine zR 7 ?_
  refine zi 3 ?_
  refine zz (k + 1) (⟨by omega, by omega⟩) (by omega)
 intro g1
 refine zR 4 ?_
 refine go_val0 rfl (slice_val' Tk rfl rfl rfl rfl k l.length c (.slice (some ⟨bL, 0 + k * 1, none⟩) (l.length - k) (c - k)) (by first | rfl | exact ⟨_, rfl⟩ | exact ⟨rfl, rfl⟩) (by first | rfl | exact ⟨_, rfl⟩ | exact ⟨rfl, rfl⟩) (by first | rfl | exact ⟨_, rfl⟩ | exact ⟨rfl, rfl⟩) (by omega) (by omega) (by omega) (by rw [subN (by omega)]; rfl)) rfl ?_
 refine zR 8 ?_
 refine zO (X := Nat × Nat × List Int) (fun x => [(3, .int .i64 (x.1 : Int)), (5, .int .i64 (x.2.1 : Int))]) [0, 4] (fun x => [ol tU 26 (some ⟨bL, 0, none⟩) c x.2.2]) (fun x => CmpI l x.2.2 k x.1 x.2.1) (fun x => l.length - x.2.1) (k, 1, l) (CmpI.start hk1 (by omega) g1) ?_
 intro ⟨m, i, ys⟩ hC
 simp only at hC ⊢
 have hC1 := hC.len
 have hC2 := hC.lo
 have hC3 := hC.hi
 have hC4 := hC.i1
 have hC5 := hC.i2
 refine zD' 8 ?_ ?_
 ·intro hq2
  refine zR 2 ?_
  have hfin := hC.done (by omega)
  refine go_ol_open (xs := ys) zM (by omega) (fun b0 cs cur hA h1 h2 h3 h4 h5 => ?_); cases hA
  have hms : m * tU.size ≤ l.length * tU.size := Nat.mul_le_mul_right _ (by omega)
  have hms2 : m * tU.size ≤ ys.length * tU.size := Nat.mul_le_mul_right _ (by omega)
  have hmc : l.length * tU.size ≤ c * tU.size := Nat.mul_le_mul_right _ (by omega)
  refine zR 3 ?_
  refine go_val0 rfl (slice_val' Tk rfl rfl rfl rfl m l.length c (.slice (some ⟨bL, 0 + m * tU.size, none⟩) (l.length - m) (c - m)) (by first | rfl | exact ⟨_, rfl⟩ | exact ⟨rfl, rfl⟩) (by first | rfl | exact ⟨_, rfl⟩ | exact ⟨rfl, rfl⟩) (by first | rfl | exact ⟨_, rfl⟩ | exact ⟨rfl, rfl⟩) (by omega) (by omega) (by omega) (by rw [subN (by omega)]; rfl)) rfl ?_
  refine go_clear Tk rfl rfl rfl rfl rfl rfl rfl rfl zM (by show 0 + m * tU.size + (l.length - m) * tU.size ≤ _; rw [Nat.sub_mul]; omega) zF ?_
  intro zs hzs
  have hzs2 : 0 + m * tU.size + zs.length ≤ cur.length := by rw [hzs]; show 0 + m * tU.size + (l.length - m) * tU.size ≤ _; rw [Nat.sub_mul]; omega
  refine go_rps (cs.take (m * tU.size)) (xs := ys) zM (fun _ q => q.head (m := m) (by omega)) ?_
  refine go_ol_close (ys.take m) zM zM (by rw [putS_len hzs2]; exact h1) (by rw [List.length_take, Nat.min_eq_left (by omega), putS_low hzs2 (by omega), ← h2, List.take_take, Nat.min_eq_left (by omega)]) (by rw [List.length_take]; omega) h4 ?_
  have hml : m = (ys.take m).length := by rw [List.length_take]; omega
  refine zR 5 ?_
  refine go_val0 rfl (slice_val' Tk rfl rfl rfl rfl 0 m c (.slice (some ⟨bL, 0, none⟩) (ys.take m).length c) (by first | rfl | exact ⟨_, rfl⟩ | exact ⟨rfl, rfl⟩) (by first | rfl | exact ⟨_, rfl⟩ | exact ⟨rfl, rfl⟩) (by first | rfl | exact ⟨_, rfl⟩ | exact ⟨rfl, rfl⟩) (by omega) (by omega) (by omega) (by rw [sub0, ← hml]; rfl)) rfl ?_
  refine zE 2 [2] ?_
  refine zT 0 rfl ⟨ys.take m, hfin, by rw [← hml]; omega, rfl, rfl, rfl⟩
 intro hq2
 refine zY 4 [1, 4, 7, 13, 16, 19, 22, 11, 26, 28] ?_
 refine zI 2 ?_
 refine zR 3 ?_
 refine zi 41 ?_
 refine go_re 41 (.int .i64 ((i - 1 : Nat) : Int)) (by show some (Value.int _ _) = _; rw [show ((i - 1 : Nat) : Int) = (i : Int) - 1 by omega]) ?_
 refine zI 0 ?_
 refine go_val2a rfl (load_val (cs := [.int .u32 ys[k + i]]) Tk rfl rfl rfl (at_olp (fun y : Int => [.int .u32 y]) fc_int (xs := ys) zM (k + i) (List.getElem?_eq_getElem (by omega)) (by show 0 + k * 1 + i * 1 = 0 + (k + i) * 1; omega) rfl) rfl) rfl ?_
 refine go_val2a rfl (load_val (cs := [.int .u32 ys[k + i - 1]]) Tk rfl rfl rfl (at_olp (fun y : Int => [.int .u32 y]) fc_int (xs := ys) zM (k + i - 1) (List.getElem?_eq_getElem (by omega)) (by show 0 + k * 1 + (i - 1) * 1 = 0 + (k + i - 1) * 1; omega) rfl) rfl) rfl ?_
 refine zE 2 [0, 3, 4, 5, 44] ?_
 refine zN' 0 ?_ ?_
 ·intro g2
  have g3 : l[k + i] = l[k + i - 1] := by rw [← hC.get (k + i) (by omega) (by omega), ← hC.get (k + i - 1) (by omega) (by omega)]; exact g2
  refine zR 7 ?_
  refine zi 5 ?_
  refine zz (m, i + 1, ys) (hC.skip (by omega) g3) (by show l.length - (i + 1) < l.length - i; omega)
 intro g2
 refine zI 6 ?_
 refine go_val0 rfl (load_val (cs := [.int .u32 ys[k + i]]) Tk rfl rfl rfl (at_olp (fun y : Int => [.int .u32 y]) fc_int (xs := ys) zM (k + i) (List.getElem?_eq_getElem (by omega)) (by show 0 + k * 1 + i * 1 = 0 + (k + i) * 1; omega) rfl) rfl) rfl ?_
 refine zI 0 ?_
 refine zSE 0 tU ys m (ys[k + i]) ent_int ?_
 refine zR 4 ?_
 refine zi 53 ?_
 refine zR 8 ?_
 refine zi 5 ?_
 refine zz (m + 1, i + 1, ys.set m ys[k + i]) (hC.keep (by omega)) (by show l.length - (i + 1) < l.length - i; omega)
theorem varsA (a : Am) (AA : Option Addr) (ac : Nat) (hn : a.a.length ≤ 12) :
    Spec Tryz.prog 124 #[.agg #[.int .u32 a.p, .slice AA a.a.length ac]] [sl tTm AA ac a.a] [] (fun v Ps' Os' => ∃ A c vs, v = .slice A vs.length c ∧ (∀ x, x ∈ vs ↔ x ∈ vars a) ∧ vs.length ≤ 12 ∧ Ps' = [sl tU A c vs] ∧ Os' = []) := by
 refine zSp _ Tryz.func124 Tryz.ntmps124 (fun _ _ _ => ?_)
 refine zX 2 ?_
 intro b1
 refine zR 8 ?_
 refine go_len (xs := a.a) zM (fun l0 m0 => ?_)
 refine go_own_nil tU 26 none ?_
 rw [show ([] : List Int) = vars ⟨a.p, a.a.take 0⟩ from rfl]
 refine zL 2 ?_
 refine zR 4 ?_
 refine zO (X := Nat × Option Addr × Nat) (fun x => [(3, .slice x.2.1 (vars ⟨a.p, a.a.take x.1⟩).length x.2.2), (9, .int .i64 (x.1 : Int))]) [7, 8] (fun x => [ol tU 26 x.2.1 x.2.2 (vars ⟨a.p, a.a.take x.1⟩)]) (fun x => x.1 ≤ a.a.length) (fun x => a.a.length - x.1) (0, none, 0) (by omega) ?_
 intro ⟨k, A1, c1⟩ hk
 simp only at hk ⊢
 have hvl := vars_len a k
 refine zD' 5 ?_ ?_
 ·intro hq1
  refine zR 2 ?_
  have htk : a.a.take k = a.a := List.take_of_length_le (by omega)
  have hv12 := vars_len a k
  refine zC 2 (sortU A1 c1 (vars ⟨a.p, a.a.take k⟩) (by omega)) ?_
  rintro _ _ _ ⟨m1, hm1, rfl, rfl, rfl⟩
  have hm1l := hm1.length_eq
  refine zR 2 ?_
  refine go_re 3 (.slice A1 m1.length c1) (by show some (Value.slice _ _ _) = _; rw [hm1l]) ?_
  refine zC 2 (compactU A1 c1 m1 (by omega)) ?_
  rintro _ _ _ ⟨m2, hm2, hl2, rfl, rfl, rfl⟩
  refine go_freeze_ol (xs := m2) zM ?_
  refine zT 2 rfl ⟨A1, c1, m2, rfl, fun x => by rw [hm2, hm1.mem_iff, htk], by omega, rfl, rfl⟩
 intro hq1
 refine zR 4 ?_
 refine go_elem_tm (xs := a.a) zM (k) (List.getElem?_eq_getElem (by omega)) (fun b0 o0 hA => ?_); cases hA
 refine zI 1 ?_
 refine zL 0 ?_
 refine zW 0 ?_
 intro b2
 refine zS 0 ?_
 refine zL 4 ?_
 refine zB' 1 ?_ ?_
 ·intro g1
  (try simp only [dcs, ne_eq] at g1)
  refine zR 6 ?_
  refine zi 9 ?_
  have hnx := vars_no (a := a) (k := k) (by omega) g1
  rw [← hnx]
  refine zz (k + 1, A1, c1) (by show k + 1 ≤ _; omega) (by show a.a.length - (k + 1) < a.a.length - k; omega)
 intro g1
 (try simp only [dcs, ne_eq] at g1)
 refine zL 3 ?_
 refine zV 0 ?_
 intro b3
 refine go_append1 (T := tU) (xs := vars ⟨a.p, a.a.take k⟩) Tk (a.a[k].n) rfl rfl rfl rfl rfl rfl rfl rfl rfl zM zM rfl ent_int (by omega) zH ?_
 intro A3 c3
 refine zR 7 ?_
 refine zi 9 ?_
 have hnx := vars_yes (a := a) (k := k) (by omega) g1
 rw [← hnx]
 refine zz (k + 1, A3, c3) (by show k + 1 ≤ _; omega) (by show a.a.length - (k + 1) < a.a.length - k; omega)
end Go.Proofs.YtdconhalfanclaaGreat.SL
namespace Go.Proofs.YtdconhalfanclaaGreat.SL
theorem takeL_len {α : Type} : ∀ {n : Nat} {l : List α}, l.length = n → takeL n l = some l
  | 0, [], _ => rfl
  | 0, _ :: _, h => by simp at h
  | n + 1, [], h => by simp at h
  | n + 1, a :: l, h => by simp only [takeL, takeL_len (l := l) (n := n) (by simpa using h)]
theorem putL_whole {vs l : List Value} (h : vs.length = l.length) : putL 0 vs l = some vs := by
  rw [putL_put 0 vs l (by omega)]
  simp [putS, h]
theorem hc_len {few : List Int} {is : List Bool} (hf : few.length = 16) (hi : is.length = 16) : (hc few is []).length = 32 := by simp [hc, hf, hi]
theorem oneCells_of : ∀ {l : List Value}, (∀ v ∈ l, oneCells [v] = true) → oneCells l = true
  | [], _ => rfl
  | v :: l, h => by
    have h1 := h v (.head _)
    have h2 := oneCells_of (l := l) fun u hu => h u (.tail _ hu)
    cases v <;> simp_all [oneCells]
theorem hc_one (few : List Int) (is : List Bool) : oneCells (hc few is []) = true := oneCells_of fun v hv => by
  simp only [hc, List.append_nil, List.mem_append, List.mem_map] at hv
  rcases hv with ⟨x, _, rfl⟩ | ⟨x, _, rfl⟩ <;> rfl
theorem beq_of {m n : Nat} (h : m = n) : Nat.beq m n = true := by subst h; exact Nat.beq_refl m
theorem at_all {Ps : List PA} {Os : List OA} {b e n : Nat} {cur : List Value} {rr : List OA} (h : Rem (pt b e cur) Os rr) (hl : cur.length = n) : At Ps Os b 0 n cur :=
  at_any h hl fun i v hv => by rw [Nat.zero_add]; exact hv
theorem at_allcl {Ps : List PA} {Os : List OA} {b n : Nat} {cur : List Value} (h : cl b 0 cur ∈ Ps) (hl : cur.length = n) : At Ps Os b 0 n cur := at_cl 0 h (takeL_len hl)
theorem fof_snoc (l : List Fa) (x : Fa) : fof (l ++ [x]) = fput (fof l) x := by unfold fof; rw [List.foldl_append]; rfl
def subT (t : Tm) (s : Int) (x : Tm) : Tm := if x = t then ⟨false, s⟩ else x
def subA (a : Am) (t : Tm) (s : Int) : Am := ⟨a.p, a.a.map (subT t s)⟩
def args (l : List Fa) : List Int := l.flatMap fun x => x.a
noncomputable def parts (l : List Fa) (a : Am) (t : Tm) (S : List Int) : Nat := (S.map fun s => (fof (l.filter (mtch (subA a t s)))).length).sum
section
variable {C : Ctx} {k : List It} {E : Env} {Ps : List PA} {Os : List OA} {ops : Array Oper} {S : World → Prop} {o : Oper} {r : Pl} {f : Bool}
theorem go_skip0f (hw : wants ops E o = some false) (hS : ∀ w hp ho, Sat w hp ho Ps Os → S w) (hd : okDst C.N o.dst = true) (g : Go C (.ops ops S r :: k) (setE o.dst undef E) Ps Os) : Go C (.ops ops S (.one 0 f o r) :: k) E Ps Os := fun a w hp ho hf hs hb => by
  show rwp _ _ _ _ _ _ _
  rw [rwp, if_neg (by rw [wants_eq hf hw]; simp)]
  exact ⟨fun _ => hS w hp ho hs, g _ w hp ho (hf.put hd undef) hs hb⟩
theorem go_same {A B : OA} {rr : List OA} (h : Rem A Os rr) (e : A = B) (g : Go C k E Ps (B :: rr)) : Go C k E Ps Os := go_imp A [B] h (fun _ _ q => sep_one (e ▸ q)) g
end
abbrev Ch := List Int × List Bool
def ch0 : Ch := (List.replicate 16 0, List.replicate 16 false)
structure Ch.ok (c : Ch) : Prop where
  f : c.1.length = 16
  i : c.2.length = 16
theorem ch0_ok : ch0.ok := ⟨by simp [ch0], by simp [ch0]⟩
def vok (a : Am) : Prop := ∀ t ∈ a.a, t.v = true → 0 ≤ t.n ∧ t.n < 16
theorem meetL_ok (f : List Int) : ∀ (l : List Tm) (c : Ch) (i : Nat), c.ok → Ch.ok (meetL f c l i)
  | [], c, i, h => h
  | t :: l, c, i, h => by
    unfold meetL
    refine meetL_ok f l _ (i + 1) ?_
    split
    · exact ⟨by simpa using h.f, by simpa using h.i⟩
    · exact h
def agC (c : Ch) (s : Int → Int) : Prop := ∀ j : Nat, c.2[j]? = some true → s (j : Int) = (c.1[j]?).getD 0
theorem agC0 (s : Int → Int) : agC ch0 s := fun j h => by
  simp only [ch0, List.getElem?_replicate] at h
  split at h <;> simp at h
def domC (c : Ch) (n : Int) : Prop := 0 ≤ n ∧ c.2[n.toNat]? = some true
theorem ap_eq {s s' : Int → Int} {a : Am} (h : ∀ t ∈ a.a, t.v = true → s t.n = s' t.n) : ap s a = ap s' a := by
  unfold ap
  congr 1
  refine List.map_congr_left fun t ht => ?_
  unfold tv
  split
  · rename_i e; exact h t ht e
  · rfl
theorem ap_inj {s s' : Int → Int} {a : Am} (h : ap s a = ap s' a) : ∀ t ∈ a.a, t.v = true → s t.n = s' t.n := fun t ht e => by
  have h1 : a.a.map (tv s) = a.a.map (tv s') := by injection h
  have := List.map_inj_left.1 h1 t ht
  simpa [tv, e] using this
def over (c : Ch) (s : Int → Int) : Int → Int := fun n => if c.2[n.toNat]? = some true then (c.1[n.toNat]?).getD 0 else s n
theorem over_ag (c : Ch) (s : Int → Int) : agC c (over c s) := fun j h => by unfold over; rw [Int.toNat_natCast, if_pos h]
theorem ap_put {c : Ch} {s : Int → Int} {a : Am} : ap s (putA c.1 c.2 a) = ap (over c s) a := by
  unfold ap putA
  simp only [List.map_map]
  congr 1
  refine List.map_congr_left fun t ht => ?_
  simp only [Function.comp]
  unfold putT tv over
  by_cases e : t.v = true
  · by_cases g : c.2[t.n.toNat]? = some true
    · simp [e, g]
    · simp [e, g]
  · simp [e]
theorem over_of {c : Ch} {s : Int → Int} {a : Am} (hv : vok a) (h : agC c s) : ap (over c s) a = ap s a := ap_eq fun t ht e => by
  unfold over
  split
  · rename_i g
    have := h t.n.toNat g
    rw [Int.toNat_of_nonneg (hv t ht e).1] at this
    exact this.symm
  · rfl
theorem mtch_put {c : Ch} {a : Am} {f : Fa} (hv : vok a) : mtch (putA c.1 c.2 a) f = true ↔ ∃ s, agC c s ∧ f = ap s a := by
  unfold mtch
  rw [decide_eq_true_iff]
  constructor
  · rintro ⟨s, rfl⟩; exact ⟨over c s, over_ag c s, ap_put⟩
  · rintro ⟨s, h, rfl⟩; exact ⟨s, by rw [ap_put, over_of hv h]⟩
theorem set_at {α : Type} (l : List α) (i j : Nat) (x : α) : (l.set i x)[j]? = if i = j ∧ i < l.length then some x else l[j]? := by
  rw [List.getElem?_set]
  by_cases e : i = j
  · subst e
    by_cases g : i < l.length
    · simp [g]
    · rw [if_pos rfl, if_neg g, if_neg (fun q => g q.2), List.getElem?_eq_none (by omega)]
  · rw [if_neg e, if_neg (fun q => e q.1)]
theorem meet_ag (s0 s : Int → Int) : ∀ (l : List Tm) (c : Ch) (f : List Int) (i : Nat), (∀ t ∈ l, t.v = true → 0 ≤ t.n ∧ t.n < 16) → c.ok → agC c s0 → f.drop i = l.map (tv s0) →
    (agC (meetL f c l i) s ↔ agC c s ∧ ∀ t ∈ l, t.v = true → s t.n = s0 t.n)
  | [], c, f, i, _, _, _, _ => by unfold meetL; simp
  | t :: l, c, f, i, hv, hc, hs, hf => by
    unfold meetL
    have hi : i < f.length := by
      have := congrArg List.length hf
      simp at this; omega
    rw [List.drop_eq_getElem_cons hi, List.map_cons, List.cons.injEq] at hf
    have hg : (f[i]?).getD 0 = tv s0 t := by rw [List.getElem?_eq_getElem hi, hf.1]; rfl
    by_cases e : t.v = true
    · rw [if_pos e]
      obtain ⟨h0, h16⟩ := hv t (.head _) e
      have hj : t.n.toNat < 16 := by omega
      have key : ∀ s', agC (c.1.set t.n.toNat ((f[i]?).getD 0), c.2.set t.n.toNat true) s' ↔ s' t.n = s0 t.n ∧ ∀ j : Nat, j ≠ t.n.toNat → c.2[j]? = some true → s' (j : Int) = (c.1[j]?).getD 0 := fun s' => by
        unfold agC
        simp only [set_at, hc.f, hc.i, hj, and_true]
        constructor
        · intro h
          refine ⟨?_, fun j hj' q => ?_⟩
          · have := h t.n.toNat (by simp)
            rw [Int.toNat_of_nonneg h0] at this
            rw [this]; simp [hg, tv, e]
          · have := h j (by rw [if_neg (fun q => hj' q.symm)]; exact q)
            rwa [if_neg (fun q => hj' q.symm)] at this
        · rintro ⟨h1, h2⟩ j q
          by_cases ej : t.n.toNat = j
          · subst ej
            rw [Int.toNat_of_nonneg h0, h1]; simp [hg, tv, e]
          · rw [if_neg ej] at q ⊢
            exact h2 j (fun q => ej q.symm) q
      have hs1 : agC (c.1.set t.n.toNat ((f[i]?).getD 0), c.2.set t.n.toNat true) s0 := (key s0).2 ⟨rfl, fun j _ q => hs j q⟩
      rw [meet_ag s0 s l _ f (i + 1) (fun t ht => hv t (.tail _ ht)) ⟨by simpa using hc.f, by simpa using hc.i⟩ hs1 hf.2, key s]
      constructor
      · rintro ⟨⟨h1, h2⟩, h3⟩
        refine ⟨fun j q => ?_, fun x hx ex => ?_⟩
        · by_cases ej : j = t.n.toNat
          · subst ej
            rw [← hs _ q, Int.toNat_of_nonneg h0, h1]
          · exact h2 j ej q
        · rcases List.mem_cons.1 hx with rfl | hx
          · exact h1
          · exact h3 x hx ex
      · rintro ⟨h1, h2⟩
        exact ⟨⟨h2 t (.head _) e, fun j _ q => h1 j q⟩, fun x hx ex => h2 x (.tail _ hx) ex⟩
    · rw [if_neg e, meet_ag s0 s l c f (i + 1) (fun t ht => hv t (.tail _ ht)) hc hs hf.2]
      constructor
      · rintro ⟨h1, h2⟩
        exact ⟨h1, fun x hx ex => (List.mem_cons.1 hx).elim (fun q => absurd (q ▸ ex) e) (fun q => h2 x q ex)⟩
      · rintro ⟨h1, h2⟩
        exact ⟨h1, fun x hx ex => h2 x (.tail _ hx) ex⟩
theorem meet_dom : ∀ (l : List Tm) (c : Ch) (f : List Int) (i : Nat) (n : Int), (∀ t ∈ l, t.v = true → 0 ≤ t.n ∧ t.n < 16) → c.ok → (domC (meetL f c l i) n ↔ domC c n ∨ ∃ t ∈ l, t.v = true ∧ t.n = n)
  | [], c, f, i, n, _, _ => by unfold meetL; simp
  | t :: l, c, f, i, n, hv, hc => by
    unfold meetL
    by_cases e : t.v = true
    · rw [if_pos e]
      obtain ⟨h0, h16⟩ := hv t (.head _) e
      rw [meet_dom l _ f (i + 1) n (fun t ht => hv t (.tail _ ht)) ⟨by simpa using hc.f, by simpa using hc.i⟩]
      have : domC (c.1.set t.n.toNat ((f[i]?).getD 0), c.2.set t.n.toNat true) n ↔ domC c n ∨ t.n = n := by
        unfold domC
        simp only [set_at, hc.i, show t.n.toNat < 16 by omega, and_true]
        constructor
        · rintro ⟨g1, g2⟩
          by_cases ej : t.n.toNat = n.toNat
          · exact .inr (by omega)
          · rw [if_neg ej] at g2; exact .inl ⟨g1, g2⟩
        · rintro (⟨g1, g2⟩ | rfl)
          · refine ⟨g1, ?_⟩; split
            · rfl
            · exact g2
          · exact ⟨h0, by simp⟩
      rw [this]
      simp only [List.mem_cons, exists_eq_or_imp, e, true_and]
      rw [or_assoc]
    · rw [if_neg e, meet_dom l c f (i + 1) n (fun t ht => hv t (.tail _ ht)) hc]
      simp only [List.mem_cons, exists_eq_or_imp, e, false_and, false_or]
      simp
theorem ofA_put {c : Ch} {s : Int → Int} {a : Am} (hv : vok a) (h : agC c s) (hd : ∀ t ∈ a.a, t.v = true → domC c t.n) : ofA (putA c.1 c.2 a) = ap s a := by
  have hg : ∀ t ∈ (putA c.1 c.2 a).a, t.v = false := fun t ht => by
    simp only [putA, List.mem_map] at ht
    obtain ⟨u, hu, rfl⟩ := ht
    unfold putT
    by_cases e : u.v = true
    · rw [if_pos ⟨e, (hd u hu e).2⟩]
    · rw [if_neg (fun q => e q.1)]; simpa using e
  have hgr : ground (putA c.1 c.2 a) = true := by
    unfold ground
    simp only [Bool.not_eq_true', List.any_eq_false, Bool.not_eq_true]
    exact hg
  rw [ofA, if_pos hgr, ← over_of hv h, ← ap_put (s := s)]
  unfold ap
  congr 1
  refine List.map_congr_left fun t ht => ?_
  simp [tv, hg t ht]
def okN (N : List Fa) (b : List Li) (c : Ch) : Bool := !(b.any fun l => l.no && decide (ofA (putA c.1 c.2 l.a) ∈ N))
noncomputable def goL (c : Cl) (F R N : List Fa) : List Li → Ch → Bool → List Fa
  | [], ch, new => if okN N c.b ch = true ∧ new = true then [ofA (putA ch.1 ch.2 c.h)] else []
  | l :: r, ch, new => if l.no = true then goL c F R N r ch new else (F.filter (mtch (putA ch.1 ch.2 l.a))).flatMap fun f => goL c F R N r (meetL f.a ch l.a.a 0) (new || decide (f ∈ R))
def Hd (c : Cl) (F R N : Fa → Prop) (some : Bool) (x : Fa) : Prop :=
  ∃ s, (∀ l ∈ c.b, l.no = false → F (ap s l.a)) ∧ (∀ l ∈ c.b, l.no = true → ¬ N (ap s l.a)) ∧ (some = true → ∃ l ∈ c.b, l.no = false ∧ R (ap s l.a)) ∧ x = ap s c.h
structure RightC (c : Cl) : Prop where
  vh : vok c.h
  vb : ∀ l ∈ c.b, vok l.a
  held : ∀ t ∈ c.h.a, t.v = true → t.n ∈ heldBy c
  heldN : ∀ l ∈ c.b, l.no = true → ∀ t ∈ l.a.a, t.v = true → t.n ∈ heldBy c
theorem mem_vars {a : Am} {n : Int} : n ∈ vars a ↔ ∃ t ∈ a.a, t.v = true ∧ t.n = n := by
  unfold vars
  simp only [List.mem_map, List.mem_filter]
  constructor
  · rintro ⟨t, ⟨h1, h2⟩, h3⟩; exact ⟨t, h1, h2, h3⟩
  · rintro ⟨t, h1, h2, h3⟩; exact ⟨t, ⟨h1, h2⟩, h3⟩
theorem mem_heldBy {c : Cl} {n : Int} : n ∈ heldBy c ↔ ∃ l ∈ c.b, l.no = false ∧ ∃ t ∈ l.a.a, t.v = true ∧ t.n = n := by
  unfold heldBy
  simp only [List.mem_flatMap, List.mem_filter, mem_vars]
  constructor
  · rintro ⟨l, ⟨h1, h2⟩, h3⟩; exact ⟨l, h1, by simpa using h2, h3⟩
  · rintro ⟨l, h1, h2, h3⟩; exact ⟨l, ⟨h1, by simpa using h2⟩, h3⟩
theorem mem_goL {c : Cl} (hc : RightC c) (F R N : List Fa) (x : Fa) : ∀ (r : List Li) (ch : Ch) (new : Bool), (∀ l ∈ r, l ∈ c.b) → ch.ok → (∀ n ∈ heldBy c, domC ch n ∨ ∃ l ∈ r, l.no = false ∧ ∃ t ∈ l.a.a, t.v = true ∧ t.n = n) →
    (x ∈ goL c F R N r ch new ↔ ∃ s, agC ch s ∧ (∀ l ∈ r, l.no = false → ap s l.a ∈ F) ∧ (∀ l ∈ c.b, l.no = true → ¬ ap s l.a ∈ N) ∧ (new = true ∨ ∃ l ∈ r, l.no = false ∧ ap s l.a ∈ R) ∧ x = ap s c.h)
  | [], ch, new, _, hok, hd => by
    unfold goL
    have hd' : ∀ n ∈ heldBy c, domC ch n := fun n hn => by
      rcases hd n hn with h | ⟨l, hl, _⟩
      · exact h
      · cases hl
    have hN : ∀ s, agC ch s → (okN N c.b ch = true ↔ ∀ l ∈ c.b, l.no = true → ¬ ap s l.a ∈ N) := fun s hs => by
      unfold okN
      simp only [Bool.not_eq_true', List.any_eq_false, Bool.and_eq_true, decide_eq_true_eq, not_and]
      constructor
      · intro h l hl e; rw [← ofA_put (hc.vb l hl) hs (fun t ht et => hd' _ (hc.heldN l hl e t ht et))]; exact h l hl e
      · intro h l hl e; rw [ofA_put (hc.vb l hl) hs (fun t ht et => hd' _ (hc.heldN l hl e t ht et))]; exact h l hl e
    have hH : ∀ s, agC ch s → ofA (putA ch.1 ch.2 c.h) = ap s c.h := fun s hs => ofA_put hc.vh hs fun t ht et => hd' _ (hc.held t ht et)
    constructor
    · intro h
      split at h
      · rename_i g
        refine ⟨over ch fun _ => 0, over_ag _ _, (fun l hl => nomatch hl), (hN _ (over_ag _ _)).1 g.1, .inl g.2, ?_⟩
        rw [List.mem_singleton] at h
        rw [h, hH _ (over_ag _ _)]
      · cases h
    · rintro ⟨s, h1, _, h3, h4, h5⟩
      have h4' : new = true := h4.elim id fun ⟨l, hl, _⟩ => nomatch hl
      rw [if_pos ⟨(hN s h1).2 h3, h4'⟩, List.mem_singleton, hH s h1, h5]
  | l :: r, ch, new, hr, hok, hd => by
    unfold goL
    by_cases e : l.no = true
    · rw [if_pos e, mem_goL hc F R N x r ch new (fun m hm => hr m (.tail _ hm)) hok (fun n hn => (hd n hn).imp id fun ⟨m, hm, h1, h2⟩ => by
        rcases List.mem_cons.1 hm with rfl | hm
        · rw [e] at h1; cases h1
        · exact ⟨m, hm, h1, h2⟩)]
      constructor
      · rintro ⟨s, h1, h2, h3, h4, h5⟩
        exact ⟨s, h1, fun m hm hn => (List.mem_cons.1 hm).elim (fun q => by rw [q, e] at hn; cases hn) (fun q => h2 m q hn), h3, h4.imp id fun ⟨m, hm, q⟩ => ⟨m, .tail _ hm, q⟩, h5⟩
      · rintro ⟨s, h1, h2, h3, h4, h5⟩
        exact ⟨s, h1, fun m hm hn => h2 m (.tail _ hm) hn, h3, h4.imp id fun ⟨m, hm, q⟩ => by
          rcases List.mem_cons.1 hm with rfl | hm
          · rw [e] at q; cases q.1
          · exact ⟨m, hm, q⟩, h5⟩
    · have e' : l.no = false := by simpa using e
      have hvl := hc.vb l (hr l (.head _))
      rw [if_neg e, List.mem_flatMap]
      have step : ∀ (s0 : Int → Int), agC ch s0 → ∀ s, agC (meetL (ap s0 l.a).a ch l.a.a 0) s ↔ agC ch s ∧ ap s l.a = ap s0 l.a := fun s0 h0 s => by
        rw [meet_ag s0 s l.a.a ch (ap s0 l.a).a 0 hvl hok h0 rfl]
        exact ⟨fun ⟨h1, h2⟩ => ⟨h1, ap_eq h2⟩, fun ⟨h1, h2⟩ => ⟨h1, ap_inj h2⟩⟩
      have ih : ∀ f, x ∈ goL c F R N r (meetL f.a ch l.a.a 0) (new || decide (f ∈ R)) ↔ _ := fun f => mem_goL hc F R N x r (meetL f.a ch l.a.a 0) (new || decide (f ∈ R)) (fun m hm => hr m (.tail _ hm)) (meetL_ok _ _ _ _ hok) (fun n hn => by
        rw [meet_dom l.a.a ch f.a 0 n hvl hok]
        rcases hd n hn with h | ⟨m, hm, h1, h2⟩
        · exact .inl (.inl h)
        · rcases List.mem_cons.1 hm with rfl | hm
          · exact .inl (.inr h2)
          · exact .inr ⟨m, hm, h1, h2⟩)
      constructor
      · rintro ⟨f, hf, hx⟩
        rw [List.mem_filter, mtch_put hvl] at hf
        obtain ⟨hF, s0, hs0, rfl⟩ := hf
        rw [ih] at hx
        obtain ⟨s, h1, h2, h3, h4, h5⟩ := hx
        obtain ⟨g1, g2⟩ := (step s0 hs0 s).1 h1
        refine ⟨s, g1, fun m hm hn => ?_, h3, ?_, h5⟩
        · rcases List.mem_cons.1 hm with rfl | hm
          · rw [g2]; exact hF
          · exact h2 m hm hn
        · rcases h4 with h4 | ⟨m, hm, q⟩
          · rw [Bool.or_eq_true, decide_eq_true_eq] at h4
            exact h4.imp id fun h4 => ⟨l, .head _, e', by rw [g2]; exact h4⟩
          · exact .inr ⟨m, .tail _ hm, q⟩
      · rintro ⟨s, h1, h2, h3, h4, h5⟩
        refine ⟨ap s l.a, ?_, ?_⟩
        · rw [List.mem_filter, mtch_put hvl]
          exact ⟨h2 l (.head _) e', s, h1, rfl⟩
        · rw [ih]
          refine ⟨s, (step s h1 s).2 ⟨h1, rfl⟩, fun m hm hn => h2 m (.tail _ hm) hn, h3, ?_, h5⟩
          rw [Bool.or_eq_true, decide_eq_true_eq]
          rcases h4 with h4 | ⟨m, hm, q⟩
          · exact .inl (.inl h4)
          · rcases List.mem_cons.1 hm with rfl | hm
            · exact .inl (.inr q.2)
            · exact .inr ⟨m, hm, q⟩
noncomputable def headsL (c : Cl) (F R N : List Fa) (some : Bool) : List Fa := fof (goL c F R N c.b ch0 (!some))
theorem mem_headsL {c : Cl} (hc : RightC c) {F R N : List Fa} {some : Bool} {x : Fa} : x ∈ headsL c F R N some ↔ Hd c (· ∈ F) (· ∈ R) (· ∈ N) some x := by
  unfold headsL
  rw [mem_fof, mem_goL hc F R N x c.b ch0 (!some) (fun l hl => hl) ch0_ok (fun n hn => .inr (mem_heldBy.1 hn))]
  unfold Hd
  constructor
  · rintro ⟨s, _, h2, h3, h4, h5⟩
    refine ⟨s, h2, h3, fun e => ?_, h5⟩
    subst e
    exact h4.elim (fun q => by cases q) id
  · rintro ⟨s, h2, h3, h4, h5⟩
    refine ⟨s, agC0 s, h2, h3, ?_, h5⟩
    cases some
    · exact .inl rfl
    · exact .inr (h4 rfl)
theorem goL_len (c : Cl) (F R N : List Fa) : ∀ (r : List Li) (ch : Ch) (new : Bool), (goL c F R N r ch new).length ≤ F.length ^ (r.filter fun l => !l.no).length
  | [], ch, new => by unfold goL; split <;> simp
  | l :: r, ch, new => by
    unfold goL
    by_cases e : l.no = true
    · rw [if_pos e, List.filter_cons_of_neg (by simp [e])]
      exact goL_len c F R N r ch new
    · rw [if_neg e, List.filter_cons_of_pos (by simpa using e), List.length_cons, Nat.pow_succ, Nat.mul_comm]
      have key : ∀ X : List Fa, (X.flatMap fun f => goL c F R N r (meetL f.a ch l.a.a 0) (new || decide (f ∈ R))).length ≤ X.length * F.length ^ (r.filter fun l => !l.no).length := fun X => by
        induction X with
        | nil => simp
        | cons y X ih =>
          rw [List.flatMap_cons, List.length_append, List.length_cons, Nat.add_mul, Nat.one_mul, Nat.add_comm]
          exact Nat.add_le_add ih (goL_len c F R N r _ _)
      exact Nat.le_trans (key _) (Nat.mul_le_mul_right _ (List.length_filter_le _ _))
end Go.Proofs.YtdconhalfanclaaGreat.SL

