/- Engine, data and contracts: parts of the proof of FixMoreUpto, put together (Fixb Ref13 Law13a Law13b DK). -/
import Derived.Test.YtkhddfknpegpmaaMFixMoreUptoC
import Derived.Test.YtkhddfknpegpmaaMFixMoreUptoB
/- Contracts of functions of the program (Fixb): what each call comes to, for the laws' proofs. -/
set_option linter.unusedVariables false
set_option linter.unusedSimpArgs false
namespace Go.Proofs.Ytkhddfknpegpmaa.SL
open Go 

theorem Spec.ents {P : Program} {f : FuncId} {args : Array Value} {Ps Ps' : List PA} {Os : List OA} {Q : Value → List PA → List OA → Prop} (s : Spec P f args Ps Os Q) (h : ∀ q, q ∈ Ps → Ent Ps' q) : Spec P f args Ps' Os Q :=
  ⟨s.fn, fun w hp ho hf hs a b c => s.calls w hp ho hf (hs.ents h) a b c⟩
/-- A set of one's own, or none. -/
def relR (p : Option Addr) (r : Option (List Fa)) : OA := ⟨fun hp h => match r with | none => p = none | some S => ∃ b, p = some ⟨b, 0, none⟩ ∧ (relO b S).p hp h, fun {hp hp' h} hl q => by
  cases r with
  | none => exact q
  | some S => obtain ⟨b, e, r⟩ := q; exact ⟨b, e, (relO b S).up hl r⟩⟩
section
variable {C : Ctx} {k : List It} {E : Env} {Ps : List PA} {Os : List OA}
theorem go_relR0 (g : Go C k E Ps (relR none none :: Os)) : Go C k E Ps Os := fun a w hp ho hf hs hb => g a w hp ho hf ⟨hs.inp, hs.ino, hs.dj, hs.ps, Heap.nil, ho, Heap.nil_le _, Heap.le_refl _, Heap.nil_dj _, rfl, hs.os⟩ hb
theorem go_relR1 {b : Nat} {S : List Fa} {rr : List OA} (h : Rem (relO b S) Os rr) (g : Go C k E Ps (relR (some ⟨b, 0, none⟩) (some S) :: rr)) : Go C k E Ps Os := go_imp _ [relR (some ⟨b, 0, none⟩) (some S)] h (fun _ _ q => sep_one ⟨b, rfl, q⟩) g
theorem go_relRs {p : Option Addr} {S : List Fa} {rr : List OA} (h : Rem (relR p (some S)) Os rr) (g : ∀ b, p = some ⟨b, 0, none⟩ → Go C k E Ps (relO b S :: rr)) : Go C k E Ps Os := fun a w hp ho hf hs hb => by
  obtain ⟨g1, g2, i, b, d, ⟨b', e, q⟩, sp⟩ := Sep.rem h hs.os
  exact g b' e a w hp ho hf ⟨hs.inp, hs.ino, hs.dj, hs.ps, g1, g2, i, b, d, q, sp⟩ hb
end
theorem Rq_len (l : List Cl) (N : List Fa) : ∀ k, (Rq l N k).length ≤ (Sq l N k).length
  | 0 => by simp [Rq]
  | k + 1 => by rw [Sq_len]; show (nx l N (Sq l N k)).length ≤ _; omega
def lkF (b6 b4 bg : Nat) : Nat → Value
  | 0 => .func (.func 40) #[] #[.pointer (some ⟨b6, 0, none⟩), .pointer (some ⟨b4, 0, none⟩)]
  | _ + 1 => .func (.func 42) #[] #[.pointer (some ⟨b6, 0, none⟩), .pointer (some ⟨bg, 0, none⟩), .pointer (some ⟨b4, 0, none⟩)]
def lkP (b4 : Nat) (pn : Option Addr) (N : List Fa) (bg bf : Nat) (R : List Fa) : Nat → PA
  | 0 => PA.all [cl b4 0 [.pointer pn], relN pn N]
  | _ + 1 => PA.all [cl bg 0 [.pointer (some ⟨bf, 0, none⟩)], relN (some ⟨bf, 0, none⟩) R, cl b4 0 [.pointer pn], relN pn N]
theorem lk_js {l : List Cl} {N : List Fa} {most : Int} (hl : ∀ c ∈ l, c.ok) (hN : ∀ x ∈ N, x.ok ∧ x.a.length ≤ 100000) (hr : rises N) (hm : most ≤ 100000) (hbig : ∀ c ∈ l, ∀ (F R : List Fa) (new : Bool), (F.length : Int) ≤ most → (goL c F R N c.b ch0 new).length ≤ 50000000) (hNl : (N.length : Int) ≤ most) {k : Nat} (hk : ((Sq l N k).length : Int) ≤ most) : JoinS (Sq l N k) (Rq l N k) N :=
  ⟨by omega, fun x hx => (Sq_ok hl hN k x hx).2, fun x hx => (Sq_ok hl hN k x hx).1, (by cases k with
    | zero => exact rises_nil
    | succ k => exact rises_nws _ _), by have := Rq_len l N k; omega, hr, by omega⟩

theorem roundNews (l : List Cl) (LA : Option Addr) (lc : Nat) (b6 b4 ba bg bf : Nat) (pn : Option Addr) (N : List Fa) (most : Int) (hl : ∀ c ∈ l, c.ok) (hN : ∀ x ∈ N, x.ok ∧ x.a.length ≤ 100000) (hr : rises N) (hm : most ≤ 100000) (hbig : ∀ c ∈ l, ∀ (F R : List Fa) (new : Bool), (F.length : Int) ≤ most → (goL c F R N c.b ch0 new).length ≤ 50000000) (hNl : (N.length : Int) ≤ most) : ∀ (k : Nat) (hk : ((Sq l N k).length : Int) ≤ most),
    Spec Try.prog 41 #[.agg #[.slice LA l.length lc, .pointer (some ⟨ba, 0, none⟩), lkF b6 b4 bg k], .int .i64 most] [sl tCl LA lc l, lkP b4 pn N bg bf (Rq l N k) k] [pt b6 33 [.pointer (some ⟨ba, 0, none⟩)], relO ba (Sq l N k)] (fun v Ps' Os' => ∃ b R, v = .pointer (some ⟨b, 0, none⟩) ∧ rises R ∧ R.length ≤ 100001 ∧ ((most < (((Sq l N k).length + R.length : Nat) : Int) ∧ most < ((Sq l N (k + 1)).length : Int)) ∨ (R = nx l N (Sq l N k) ∧ (((Sq l N k).length + R.length : Nat) : Int) ≤ most)) ∧ Ps' = [] ∧ Os' = [pt b6 33 [.pointer (some ⟨ba, 0, none⟩)], relO ba (Sq l N k), relO b R])
  | 0, hk => (fixNews l LA lc b6 ba (Sq l N 0) 40 #[.pointer (some ⟨b6, 0, none⟩), .pointer (some ⟨b4, 0, none⟩)] _ (askH l N 0) most (fun c hc CA cc CB cd => (least1 c CA cc CB cd b6 b4 ba pn (Sq l N 0) N (lk_js hl hN hr hm hbig hNl (k := 0) hk) (hl c hc) (hbig c hc _ _ _ hk)).ents (fun q hq => by
      simp only [List.mem_cons, List.not_mem_nil, or_false] at hq
      first
      | (rcases hq with rfl | rfl | rfl | rfl)
      | (rcases hq with rfl | rfl | rfl | rfl | rfl | rfl)
      all_goals intro h a; first | exact a _ (.head _) | exact a _ (.tail _ (.head _)) | exact a _ (.tail _ (.tail _ (.head _))) _ (by simp))) (rises_Sq hr 0) hm hk (fun c hc x hx => by have := (heads_ok (hl c hc) (fun y hy => (Sq_ok hl hN 0 y hy).1) hx).2; omega)).imp fun v P' O' ⟨b, R, h1, h2, h0, h3, h4, h5⟩ => ⟨b, R, h1, h2, h0, by rw [ask_news hl] at h3; rw [Sq_len]; exact h3, h4, h5⟩
  | k + 1, hk => (fixNews l LA lc b6 ba (Sq l N (k + 1)) 42 #[.pointer (some ⟨b6, 0, none⟩), .pointer (some ⟨bg, 0, none⟩), .pointer (some ⟨b4, 0, none⟩)] _ (askH l N (k + 1)) most (fun c hc CA cc CB cd => (least2 c CA cc CB cd b6 bg b4 ba (some ⟨bf, 0, none⟩) pn (Sq l N (k + 1)) (Rq l N (k + 1)) N (lk_js hl hN hr hm hbig hNl hk) (hl c hc) (hbig c hc _ _ _ hk)).ents (fun q hq => by
      simp only [List.mem_cons, List.not_mem_nil, or_false] at hq
      first
      | (rcases hq with rfl | rfl | rfl | rfl)
      | (rcases hq with rfl | rfl | rfl | rfl | rfl | rfl)
      all_goals intro h a; first | exact a _ (.head _) | exact a _ (.tail _ (.head _)) | exact a _ (.tail _ (.tail _ (.head _))) _ (by simp))) (rises_Sq hr (k + 1)) hm hk (fun c hc x hx => by have := (heads_ok (hl c hc) (fun y hy => (Sq_ok hl hN (k + 1) y hy).1) hx).2; omega)).imp fun v P' O' ⟨b, R, h1, h2, h0, h3, h4, h5⟩ => ⟨b, R, h1, h2, h0, by rw [ask_news hl] at h3; rw [show (Sq l N (k + 1 + 1)).length = _ from Sq_len l N (k + 1)]; exact h3, h4, h5⟩

set_option maxHeartbeats 4000000 in
set_option maxRecDepth 20000 in
theorem fixLeast (l : List Cl) (LA : Option Addr) (lc : Nat) (pn : Option Addr) (N : List Fa) (most : Int) (hl : ∀ c ∈ l, c.ok) (hN : ∀ x ∈ N, x.ok ∧ x.a.length ≤ 100000) (hr : rises N) (hm : most ≤ 100000) (hbig : ∀ c ∈ l, ∀ (F R : List Fa) (new : Bool), (F.length : Int) ≤ most → (goL c F R N c.b ch0 new).length ≤ 50000000) (hNl : N.length ≤ 100000) :
    Spec Try.prog 20 #[.slice LA l.length lc, .pointer pn, .int .i64 most] [sl tCl LA lc l, relN pn N] [] (fun v Ps' Os' => ∃ r n e p, LeastR l N most r n e ∧ v = .tuple #[.pointer p, .int .i64 ((n : Nat) : Int), .int .i64 e] ∧ Ps' = [] ∧ Os' = [relR p r]) := by
 refine spec_of (fn := Try.f20) (args := [.slice LA l.length lc, .pointer pn, .int .i64 most]) 60 Try.func20 rfl (by kernel_rfl) Try.ntmps20 (Nat.le_of_ble_eq_true rfl) (fun w0 hp0 hf0 => ?_)
 refine go_seq ?_
 refine go_region rfl ?_
 refine go_box Tk rfl rfl rfl rfl (by rfl) rfl rfl (fun h => nomatch h) ?_
 intro b4
 refine go_freeze_pt (b := b4) (by repeat constructor) ?_
 refine go_alloc Tk rfl rfl rfl (by rfl) rfl rfl (fun h => nomatch h) ?_
 intro b6
 iterate 2 refine go_pure0 Tk rfl rfl rfl ?_
 refine go_nil ?_
 refine go_env [(0, _), (2, _), (4, _), (6, _), (7, _)] ⟨rfl, rfl, rfl, rfl, rfl, trivial⟩ ?_
 iterate 6 first | refine go_seq ?_ | refine go_region rfl ?_ | refine go_pure0 Tk rfl rfl rfl ?_
 refine go_known 15 rfl ?_ ?_
 ·intro g1
  (try simp only [decide_eq_true_eq, decide_eq_false_iff_not, Bool.not_eq_true', Bool.not_eq_false', Bool.not_eq_eq_eq_not, Bool.not_true, Bool.not_false, Int.not_lt, Int.not_le, beq_iff_eq, beq_eq_false_iff_ne, ne_eq] at g1)
  iterate 4 first | refine go_skip0 rfl rfl ?_ | refine go_pure0 Tk rfl rfl rfl ?_
  refine go_nil ?_
  refine go_env [(0, _), (2, _), (4, _), (6, _), (7, _), (19, _)] ⟨rfl, rfl, rfl, rfl, rfl, rfl, trivial⟩ ?_
  refine go_cond_t rfl ?_
  refine go_seq ?_
  refine go_relR0 ?_
  refine go_region rfl ?_
  refine go_store Tk rfl rfl rfl rfl rfl rfl (by repeat constructor) rfl rfl (by rfl) (fun h => nomatch h) ?_
  iterate 2 refine go_pure0 Tk rfl rfl rfl ?_
  refine go_nil ?_
  refine go_env [(6, _), (7, _), (8, _)] ⟨rfl, rfl, rfl, trivial⟩ ?_
  refine go_ret ⟨rfl, rfl⟩ _ _ (res3 (by rfl) (.cell rfl (rdv Tk rfl)) (.tmp rfl) (.tmp rfl)) ⟨none, 0, 1, none, .arg (.inl g1), rfl, rfl, rfl⟩ (by repeat constructor) (by repeat constructor)
 ·intro g1
  (try simp only [decide_eq_true_eq, decide_eq_false_iff_not, Bool.not_eq_true', Bool.not_eq_false', Bool.not_eq_eq_eq_not, Bool.not_true, Bool.not_false, Int.not_lt, Int.not_le, beq_iff_eq, beq_eq_false_iff_ne, ne_eq] at g1)
  refine go_pure0 Tk rfl rfl rfl ?_
  refine go_call (fixRight l LA lc) rfl rfl (by rfl) rfl (by repeat constructor) (by repeat constructor) (fun h => nomatch h) ?_
  rintro _ _ _ ⟨rfl, rfl, rfl⟩
  iterate 2 refine go_pure0 Tk rfl rfl rfl ?_
  refine go_nil ?_
  refine go_env [(0, _), (2, _), (4, _), (6, _), (7, _), (19, _)] ⟨rfl, rfl, rfl, rfl, rfl, rfl, trivial⟩ ?_
  refine go_cond rfl ?_ ?_
  ·intro g2
   (try simp only [decide_eq_true_eq, decide_eq_false_iff_not, Bool.not_eq_true', Bool.not_eq_false', Bool.not_eq_eq_eq_not, Bool.not_true, Bool.not_false, Int.not_lt, Int.not_le, beq_iff_eq, beq_eq_false_iff_ne, ne_eq] at g2)
   refine go_seq ?_
   refine go_relR0 ?_
   refine go_region rfl ?_
   refine go_store Tk rfl rfl rfl rfl rfl rfl (by repeat constructor) rfl rfl (by rfl) (fun h => nomatch h) ?_
   iterate 2 refine go_pure0 Tk rfl rfl rfl ?_
   refine go_nil ?_
   refine go_env [(6, _), (7, _), (8, _)] ⟨rfl, rfl, rfl, trivial⟩ ?_
   refine go_ret ⟨rfl, rfl⟩ _ _ (res3 (by rfl) (.cell rfl (rdv Tk rfl)) (.tmp rfl) (.tmp rfl)) ⟨none, 0, 1, none, .arg (.inr g2), rfl, rfl, rfl⟩ (by repeat constructor) (by repeat constructor)
  ·intro g2
   (try simp only [decide_eq_true_eq, decide_eq_false_iff_not, Bool.not_eq_true', Bool.not_eq_false', Bool.not_eq_eq_eq_not, Bool.not_true, Bool.not_false, Int.not_lt, Int.not_le, beq_iff_eq, beq_eq_false_iff_ne, ne_eq] at g2)
   refine go_skip ?_
   refine go_seq ?_
   refine go_ent (relN none []) (fun _ _ => relN_nil) ?_
   have g1' : 0 ≤ most := by omega
   refine go_region rfl ?_
   refine go_val0 rfl (ldv Tk rfl rfl rfl) rfl ?_
   refine go_call (relLessN pn N none [] rises_nil (by simp) (by omega) (fun x hx => (hN x hx).2)) rfl rfl (by rfl) rfl (by repeat constructor) (by repeat constructor) (fun h => nomatch h) ?_
   rintro _ _ _ ⟨ba, rfl, rfl, rfl⟩
   refine go_relD (b := ba) (by repeat constructor) ?_
   refine go_same (A := relO ba _) (B := relO ba (Sq l N 0)) (by repeat constructor) (by rw [less_nil]; rfl) ?_
   refine go_store Tk rfl rfl rfl rfl rfl rfl (by repeat constructor) rfl rfl (by rfl) (fun h => nomatch h) ?_
   refine go_nil ?_
   refine go_env [(0, _), (2, _), (4, _), (6, _), (7, _)] ⟨rfl, rfl, rfl, rfl, rfl, trivial⟩ ?_
   iterate 4 first | refine go_seq ?_ | refine go_region rfl ?_ | refine go_val0 rfl (ldv Tk rfl rfl rfl) rfl ?_
   refine go_call (relLen ba (Sq l N 0)) rfl rfl (by rfl) rfl (by repeat constructor) (by repeat constructor) (fun h => nomatch h) ?_
   rintro _ _ _ ⟨rfl, rfl, rfl⟩
   iterate 2 refine go_pure0 Tk rfl rfl rfl ?_
   refine go_nil ?_
   refine go_env [(0, _), (2, _), (4, _), (6, _), (7, _), (25, _)] ⟨rfl, rfl, rfl, rfl, rfl, rfl, trivial⟩ ?_
   refine go_condD rfl ?_ ?_
   ·intro g3
    refine go_seq ?_
    refine go_relR0 ?_
    refine go_region rfl ?_
    refine go_store Tk rfl rfl rfl rfl rfl rfl (by repeat constructor) rfl rfl (by rfl) (fun h => nomatch h) ?_
    iterate 2 refine go_pure0 Tk rfl rfl rfl ?_
    refine go_nil ?_
    refine go_env [(6, _), (7, _), (8, _)] ⟨rfl, rfl, rfl, trivial⟩ ?_
    refine go_ret ⟨rfl, rfl⟩ _ _ (res3 (by rfl) (.cell rfl (rdv Tk rfl)) (.tmp rfl) (.tmp rfl)) ⟨none, 0, 6, none, .many 0 g1' g2 (by omega), rfl, rfl, rfl⟩ (by repeat constructor) (by repeat constructor)
   ·intro g3
    iterate 6 first | refine go_skip ?_ | refine go_seq ?_ | refine go_region rfl ?_ | refine go_pure0 Tk rfl rfl rfl ?_ | refine go_val0 rfl (ldv Tk rfl rfl rfl) rfl ?_
    refine go_val0 rfl (fun a w hp ho hf hs => build_val Tk rfl rfl rfl (by rfl) a w hf) rfl ?_
    refine go_alloc Tk rfl rfl rfl (by rfl) rfl rfl (fun h => nomatch h) ?_
    intro b9
    refine go_store Tk rfl rfl rfl rfl rfl rfl (by repeat constructor) rfl rfl (by rfl) (fun h => nomatch h) ?_
    refine go_nil ?_
    refine go_mkall [cl b4 0 [.pointer pn], relN pn N] (by repeat constructor) ?_
    have hSN : ((Sq l N 0).length : Int) ≤ most := by omega
    have hNm : (N.length : Int) ≤ most := hSN
    refine go_env [(2, _), (4, _), (6, _), (7, _), (9, _)] ⟨rfl, rfl, rfl, rfl, rfl, trivial⟩ ?_
    refine go_block ?_
    refine go_loop (X := Nat × Nat × Nat) (fun x => [(7, .int .i64 (x.1 : Int))]) [(2, _), (4, _), (6, _), (9, _)] (fun x => [sl tCl LA lc l, lkP b4 pn N x.2.1 x.2.2 (Rq l N x.1) x.1, cl b4 0 [.pointer pn], relN pn N]) (fun x => [pt b6 33 [.pointer (some ⟨ba, 0, none⟩)], relO ba (Sq l N x.1), pt b9 77 [.slice LA l.length lc, .pointer (some ⟨ba, 0, none⟩), lkF b6 b4 x.2.1 x.1]]) (fun x => ((Sq l N x.1).length : Int) ≤ most ∧ x.1 ≤ (Sq l N x.1).length ∧ ∀ j < x.1, ¬ nx l N (Sq l N j) = []) (fun x => most.toNat + 1 - x.1) ((0, 0, 0)) ⟨rfl, rfl, rfl, rfl, rfl, trivial⟩ (by repeat constructor) (by repeat constructor) ⟨hSN, by omega, by omega⟩ ?_
    intro ⟨k, bg0, bf0⟩ ⟨hk, hkl, hkn⟩
    simp only at hk hkl hkn ⊢
    iterate 5 first | refine go_block ?_ | refine go_seq ?_ | refine go_region rfl ?_ | refine go_pure0 Tk rfl rfl rfl ?_
    refine go_i64 31 rfl (by omega) (by omega) ?_
    refine go_re 31 (.int .i64 ((k + 1 : Nat) : Int)) (by rfl) ?_
    refine go_pure0 Tk rfl rfl rfl ?_
    refine go_nil ?_
    refine go_env [(2, _), (4, _), (6, _), (7, _), (9, _)] ⟨rfl, rfl, rfl, rfl, rfl, trivial⟩ ?_
    refine go_seq ?_
    refine go_region rfl ?_
    refine go_val0 rfl (ldv Tk rfl rfl rfl) rfl ?_
    refine go_pure0 Tk rfl rfl rfl ?_
    refine go_call (roundNews l LA lc b6 b4 ba bg0 bf0 pn N most hl hN hr hm hbig hNm k hk) rfl rfl (by rfl) rfl (by repeat constructor) (by repeat constructor) (fun h => nomatch h) ?_
    rintro _ _ _ ⟨bf, R, rfl, hRr, hRl, hca, rfl, rfl⟩
    refine go_alloc Tk rfl rfl rfl (by rfl) rfl rfl (fun h => nomatch h) ?_
    intro bg
    refine go_store Tk rfl rfl rfl rfl rfl rfl (by repeat constructor) rfl rfl (by rfl) (fun h => nomatch h) ?_
    refine go_nil ?_
    refine go_env [(2, _), (4, _), (6, _), (7, _), (9, _), (10, _)] ⟨rfl, rfl, rfl, rfl, rfl, rfl, trivial⟩ ?_
    iterate 2 refine go_seq ?_
    refine go_draw ([]) ([pt b6 33 [.pointer (some ⟨ba, 0, none⟩)], pt bg 33 [.pointer (some ⟨bf, 0, none⟩)]]) [0, 2] (SL.pre [(1, 5), (2, 0), (2, 2), (0, 1), (0, 3), (1, 4), (1, 6)] .nil) mixed rfl (by kernel_rfl) ?_
    iterate 3 first | refine go_pure1 Tk rfl rfl rfl ?_ | refine go_val2a rfl (ldv Tk rfl rfl rfl) rfl ?_
    refine go_call (relLen ba (Sq l N k)) rfl rfl (by rfl) rfl (by repeat constructor) (by repeat constructor) (fun _ v Ps' Os' hq => by obtain ⟨rfl, rfl, rfl⟩ := hq; exact satS (by repeat constructor) (by repeat constructor)) ?_
    rintro _ _ _ ⟨rfl, rfl, rfl⟩
    refine go_call (relLen bf R) rfl rfl (by rfl) rfl (by repeat constructor) (by repeat constructor) (fun h => nomatch h) ?_
    rintro _ _ _ ⟨rfl, rfl, rfl⟩
    refine go_pure1 Tk rfl rfl rfl ?_
    refine go_i64 39 rfl (by omega) (by omega) ?_
    refine go_pure1 Tk rfl rfl rfl ?_
    refine go_nil ?_
    refine go_env [(2, _), (4, _), (6, _), (7, _), (9, _), (10, _), (41, _)] ⟨rfl, rfl, rfl, rfl, rfl, rfl, rfl, trivial⟩ ?_
    refine go_condD rfl ?_ ?_
    ·intro g3
     refine go_seq ?_
     refine go_relR0 ?_
     refine go_region rfl ?_
     refine go_store Tk rfl rfl rfl rfl rfl rfl (by repeat constructor) rfl rfl (by rfl) (fun h => nomatch h) ?_
     iterate 2 refine go_pure0 Tk rfl rfl rfl ?_
     refine go_nil ?_
     refine go_env [(6, _), (7, _), (8, _)] ⟨rfl, rfl, rfl, trivial⟩ ?_
     refine go_ret ⟨rfl, rfl⟩ _ _ (res3 (by rfl) (.cell rfl (rdv Tk rfl)) (.tmp rfl) (.tmp rfl)) ⟨none, 0, 6, none, .many (k + 1) g1' g2 (hca.elim (fun q => q.2) (fun q => absurd q.2 (by omega))), rfl, rfl, rfl⟩ (by repeat constructor) (by repeat constructor)
    ·intro g3
     obtain ⟨rfl, hle⟩ := hca.resolve_left (fun q => by omega)
     iterate 5 first | refine go_skip ?_ | refine go_seq ?_ | refine go_region rfl ?_ | refine go_val0 rfl (ldv Tk rfl rfl rfl) rfl ?_
     refine go_call (relLen bf (nx l N (Sq l N k))) rfl rfl (by rfl) rfl (by repeat constructor) (by repeat constructor) (fun h => nomatch h) ?_
     rintro _ _ _ ⟨rfl, rfl, rfl⟩
     refine go_pure0 Tk rfl rfl rfl ?_
     refine go_nil ?_
     refine go_env [(2, _), (4, _), (6, _), (7, _), (9, _), (10, _), (44, _)] ⟨rfl, rfl, rfl, rfl, rfl, rfl, rfl, trivial⟩ ?_
     refine go_condD rfl ?_ ?_
     ·intro g4
      have g5 : nx l N (Sq l N k) = [] := List.eq_nil_of_length_eq_zero (by omega)
      refine go_seq ?_
      skip
      refine go_region rfl ?_
      refine go_val0 rfl (ldv Tk rfl rfl rfl) rfl ?_
      refine go_pure0 Tk rfl rfl rfl ?_
      refine go_store Tk rfl rfl rfl rfl rfl rfl (by repeat constructor) rfl rfl (by rfl) (fun h => nomatch h) ?_
      iterate 2 refine go_pure0 Tk rfl rfl rfl ?_
      refine go_nil ?_
      refine go_relR1 (b := ba) (by repeat constructor) ?_
      refine go_env [(6, _), (7, _), (8, _)] ⟨rfl, rfl, rfl, trivial⟩ ?_
      refine go_ret ⟨rfl, rfl⟩ _ _ (res3 (by rfl) (.cell rfl (rdv Tk rfl)) (.tmp rfl) (.tmp rfl)) ⟨some (Sq l N k), k + 1, 0, _, .ok k g1' g2 hk hkn g5, rfl, rfl, rfl⟩ (by repeat constructor) (by repeat constructor)
     ·intro g4
      have g5 : ¬ nx l N (Sq l N k) = [] := fun q => g4 (by rw [q]; rfl)
      have hnl : 0 < (nx l N (Sq l N k)).length := List.length_pos_iff.2 g5
      iterate 3 first | refine go_skip ?_ | refine go_seq ?_
      refine go_freeze_pt (b := bg) (by repeat constructor) ?_
      refine go_freeze_rel (b := bf) (by repeat constructor) ?_
      refine go_ent (relN (some ⟨bf, 0, none⟩) (nx l N (Sq l N k))) (fun hh hps => relN_some (hps (relP bf (nx l N (Sq l N k))) (by repeat constructor))) ?_
      refine go_region rfl ?_
      refine go_val0 rfl (ldv Tk rfl rfl rfl) rfl ?_
      refine go_call (relListN (some ⟨bf, 0, none⟩) (nx l N (Sq l N k)) (by omega) (fun x hx => (Sq_ok hl hN (k + 1) x (mem_nextS.2 (.inr (mem_nws.1 hx).1))).2)) rfl rfl (by rfl) rfl (by repeat constructor) (by repeat constructor) (fun h => nomatch h) ?_
      rintro _ _ _ ⟨A9, k9, rfl, rfl, rfl⟩
      refine go_freeze_dl (T := tFa) (A := A9) (xs := nx l N (Sq l N k)) (by repeat constructor) ?_
      refine go_len (xs := nx l N (Sq l N k)) (by repeat constructor) (fun l9 m9 => ?_)
      refine go_same (A := relO ba (Sq l N k)) (B := relO ba (((nx l N (Sq l N k)).take (0)).foldl fput (Sq l N k))) (by repeat constructor) rfl ?_
      iterate 2 refine go_pure0 Tk rfl rfl rfl ?_
      refine go_nil ?_
      refine go_env [(2, _), (4, _), (6, _), (7, _), (9, _), (10, _), (48, _), (49, _), (50, _)] ⟨rfl, rfl, rfl, rfl, rfl, rfl, rfl, rfl, rfl, trivial⟩ ?_
      refine go_block ?_
      refine go_loop' (X := Nat) (fun j => [(50, .int .i64 (j : Int))]) [(2, _), (4, _), (6, _), (7, _), (9, _), (10, _), (48, _), (49, _)] (fun j => [pt b6 33 [.pointer (some ⟨ba, 0, none⟩)], relO ba (((nx l N (Sq l N k)).take (j)).foldl fput (Sq l N k))]) (fun j => j ≤ (nx l N (Sq l N k)).length) (fun j => (nx l N (Sq l N k)).length - j) (0) ⟨rfl, rfl, rfl, rfl, rfl, rfl, rfl, rfl, rfl, trivial⟩ (by repeat constructor) (by omega) ?_
      intro j hj
      have hcl := foldl_flen ((nx l N (Sq l N k)).take j) (Sq l N k)
      rw [List.length_take] at hcl
      refine go_seq ?_
      refine go_region rfl ?_
      refine go_pure0 Tk rfl rfl rfl ?_
      refine go_nil ?_
      refine go_env [(2, _), (4, _), (6, _), (7, _), (9, _), (10, _), (48, _), (49, _), (50, _), (51, _)] ⟨rfl, rfl, rfl, rfl, rfl, rfl, rfl, rfl, rfl, rfl, trivial⟩ ?_
      refine go_seq ?_
      refine go_condD rfl ?_ ?_
      ·intro hq1
       iterate 4 first | refine go_skip ?_ | refine go_seq ?_ | refine go_block ?_
       refine go_elem_fa (xs := nx l N (Sq l N k)) (by repeat constructor) (j) (List.getElem?_eq_getElem (by omega)) (fun b1 o1 A1 c1 hA => ?_); cases hA
       refine go_region rfl ?_
       refine go_val0 rfl (idx_val Tk rfl rfl rfl rfl rfl (by omega)) rfl ?_
       refine go_val0 rfl (ldv Tk rfl rfl rfl) rfl ?_
       refine go_alloc Tk rfl rfl rfl (by rfl) rfl rfl (fun h => nomatch h) ?_
       intro bV
       refine go_store Tk rfl rfl rfl rfl rfl rfl (by repeat constructor) rfl rfl (by rfl) (fun h => nomatch h) ?_
       refine go_nil ?_
       refine go_freeze_pt (b := bV) (by repeat constructor) ?_
       refine go_env [(2, _), (4, _), (6, _), (7, _), (9, _), (10, _), (12, _), (48, _), (49, _), (50, _)] ⟨rfl, rfl, rfl, rfl, rfl, rfl, rfl, rfl, rfl, rfl, trivial⟩ ?_
       iterate 3 first | refine go_region rfl ?_ | refine go_val0 rfl (ldv Tk rfl rfl rfl) rfl ?_
       refine go_call (relPut ba (((nx l N (Sq l N k)).take (j)).foldl fput (Sq l N k)) (nx l N (Sq l N k))[j] A1 c1 (foldl_rises _ _ (rises_Sq hr k)) (by omega) (Sq_ok hl hN (k + 1) _ (mem_nextS.2 (.inr (mem_nws.1 (List.getElem_mem (show j < (nx l N (Sq l N k)).length by omega))).1))).2) rfl rfl (by rfl) rfl (by repeat constructor) (by repeat constructor) (fun h => nomatch h) ?_
       rintro _ _ _ ⟨rfl, rfl, rfl⟩
       refine go_nil ?_
       refine go_env [(2, _), (4, _), (6, _), (7, _), (9, _), (10, _), (48, _), (49, _), (50, _)] ⟨rfl, rfl, rfl, rfl, rfl, rfl, rfl, rfl, rfl, trivial⟩ ?_
       refine go_blk ?_
       iterate 3 first | refine go_region rfl ?_ | refine go_pure0 Tk rfl rfl rfl ?_
       refine go_nil ?_
       refine go_i64 50 rfl (by omega) (by omega) ?_
       refine go_same (B := relO ba (((nx l N (Sq l N k)).take (j + 1)).foldl fput (Sq l N k))) .here (by rw [List.take_succ_eq_append_getElem (show j < (nx l N (Sq l N k)).length by omega), List.foldl_append]; rfl) ?_
       refine go_back (j + 1) ⟨rfl, rfl, rfl, rfl, rfl, rfl, rfl, rfl, rfl, trivial⟩ (by repeat constructor) (by repeat constructor) (by omega) (by omega)
      ·intro hq1
       iterate 4 first | refine go_exit rfl ?_ | refine go_region rfl ?_ | refine go_pure0 Tk rfl rfl rfl ?_
       refine go_store Tk rfl rfl rfl rfl rfl rfl (by repeat constructor) rfl rfl (by rfl) (fun h => nomatch h) ?_
       refine go_nil ?_
       refine go_same (A := relO ba _) (B := relO ba (Sq l N (k + 1))) (by repeat constructor) (by rw [List.take_of_length_le (by omega)]; rfl) ?_
       refine go_env [(2, _), (4, _), (6, _), (7, _), (9, _)] ⟨rfl, rfl, rfl, rfl, rfl, trivial⟩ ?_
       refine go_blk ?_
       refine go_mkall [cl bg 0 [.pointer (some ⟨bf, 0, none⟩)], relN (some ⟨bf, 0, none⟩) (nx l N (Sq l N k)), cl b4 0 [.pointer pn], relN pn N] (by repeat constructor) ?_
       refine go_back (k + 1, bg, bf) ⟨rfl, rfl, rfl, rfl, rfl, trivial⟩ (by repeat constructor) (by repeat constructor) ⟨by show ((Sq l N (k + 1)).length : Int) ≤ most; rw [Sq_len]; exact hle, by show k + 1 ≤ _; rw [Sq_len]; omega, fun j' hj' => (Nat.lt_or_ge j' k).elim (hkn j') (fun q => by rw [show j' = k by have : j' < k + 1 := hj'; omega]; exact g5)⟩ (by show most.toNat + 1 - (k + 1) < most.toNat + 1 - k; omega)

end Go.Proofs.Ytkhddfknpegpmaa.SL

/- Contracts of functions of the program (Ref13): what each call comes to, for the laws' proofs. -/
set_option linter.unusedVariables false
set_option linter.unusedSimpArgs false
namespace Go.Proofs.Ytkhddfknpegpmaa.SL
open Go 

set_option maxHeartbeats 2000000 in
set_option maxRecDepth 20000 in
theorem ref13Has (L : Option Addr) (lc : Nat) (l : List Fa) (q : Fa) (QA : Option Addr) (qc : Nat) :
    Spec Try.prog 15 #[.slice L l.length lc, .agg #[.int .u32 q.p, .slice QA q.a.length qc]] [sl tFa L lc l, sl tU QA qc q.a] [] (fun v Ps' Os' => v = .bool (decide (q ∈ l)) ∧ Ps' = [] ∧ Os' = []) := by
 refine spec_of (fn := Try.f15) (args := [.slice L l.length lc, .agg #[.int .u32 q.p, .slice QA q.a.length qc]]) 19 Try.func15 rfl (by kernel_rfl) Try.ntmps15 (Nat.le_of_ble_eq_true rfl) (fun w0 hp0 hf0 => ?_)
 refine go_seq ?_
 refine go_region rfl ?_
 refine go_box Tk rfl rfl rfl rfl (by rfl) rfl rfl (fun h => nomatch h) ?_
 intro b1
 refine go_pure0 Tk rfl rfl rfl ?_
 refine go_nil ?_
 refine go_env [(0, _), (3, _)] ⟨rfl, rfl, trivial⟩ ?_
 iterate 2 refine go_seq ?_
 refine go_len (xs := l) (by repeat constructor) (fun l0 m0 => ?_)
 refine go_region rfl ?_
 refine go_pure0 Tk rfl rfl rfl ?_
 refine go_nil ?_
 refine go_env [(0, _), (3, _), (5, _)] ⟨rfl, rfl, rfl, trivial⟩ ?_
 refine go_block ?_
 refine go_loop' (X := Nat) (fun k => [(5, .int .i64 (k : Int))]) [(0, _), (3, _)] (fun _ => []) (fun k => k ≤ l.length ∧ ¬ q ∈ l.take k) (fun k => l.length - k) (0) ⟨rfl, rfl, rfl, trivial⟩ (by repeat constructor) ⟨by omega, by simp⟩ ?_
 intro k ⟨hk, hz⟩
 iterate 7 first | refine go_seq ?_ | refine go_region rfl ?_ | refine go_pure0 Tk rfl rfl rfl ?_
 refine go_nil ?_
 refine go_env [(0, _), (3, _), (5, _), (9, _)] ⟨rfl, rfl, rfl, rfl, trivial⟩ ?_
 refine go_condD rfl ?_ ?_
 ·intro hq1
  iterate 4 first | refine go_skip ?_ | refine go_seq ?_ | refine go_block ?_
  refine go_elem_fa (xs := l) (by repeat constructor) (k) (List.getElem?_eq_getElem (by omega)) (fun b0 o0 A0 c0 hA => ?_); cases hA
  refine go_draw'  [3, 4] (SL.pre [(1, 0), (1, 1), (1, 2), (2, 3), (2, 4), (0, 5), (1, 6)] .nil) mixed rfl (by kernel_rfl) ?_
  iterate 2 refine go_pure1 Tk rfl rfl rfl ?_
  refine go_val1 rfl (idx_val Tk rfl rfl rfl rfl rfl (by omega)) rfl ?_
  iterate 2 refine go_val2a rfl (ldv Tk rfl rfl rfl) rfl ?_
  refine go_call (refCompare _ _ _ _ _ _ _ _) rfl rfl (by rfl) rfl (by repeat constructor) (by repeat constructor) (fun h => nomatch h) ?_
  rintro _ _ _ ⟨rfl, rfl, rfl⟩
  refine go_pure1 Tk rfl rfl rfl ?_
  refine go_nil ?_
  refine go_env [(0, _), (3, _), (5, _), (18, _)] ⟨rfl, rfl, rfl, rfl, trivial⟩ ?_
  refine go_condD rfl ?_ ?_
  ·intro g1
   refine go_seq ?_
   refine go_region rfl ?_
   refine go_pure0 Tk rfl rfl rfl ?_
   refine go_nil ?_
   refine go_env [(4, _)] ⟨rfl, trivial⟩ ?_
   refine go_ret ⟨rfl, rfl⟩ _ _ (res1 (by rfl) (.tmp rfl)) ⟨by rw [decide_eq_true (show q ∈ l from (cmpF_zero (x := l[k]) (q := q)).1 g1 ▸ List.getElem_mem _)], rfl, rfl⟩ (by repeat constructor) (by repeat constructor)
  ·intro g1
   refine go_skip ?_
   refine go_blk ?_
   iterate 4 first | refine go_region rfl ?_ | refine go_pure0 Tk rfl rfl rfl ?_
   refine go_nil ?_
   refine go_i64 5 rfl (by omega) (by omega) ?_
   refine go_back (k + 1) ⟨rfl, rfl, rfl, trivial⟩ (by repeat constructor) (by repeat constructor) (⟨by omega, not_next (by omega) hz g1⟩) (by omega)
 ·intro hq1
  refine go_exit rfl ?_
  refine go_seq ?_
  refine go_region rfl ?_
  refine go_pure0 Tk rfl rfl rfl ?_
  refine go_nil ?_
  refine go_env [(4, _)] ⟨rfl, trivial⟩ ?_
  refine go_ret ⟨rfl, rfl⟩ _ _ (res1 (by rfl) (.tmp rfl)) ⟨by rw [List.take_of_length_le (by omega)] at hz; rw [decide_eq_false hz], rfl, rfl⟩ (by repeat constructor) (by repeat constructor)

set_option maxHeartbeats 2000000 in
set_option maxRecDepth 20000 in
theorem ref13Same (A : Option Addr) (c : Nat) (l : List Fa) (B : Option Addr) (d : Nat) (m : List Fa) :
    Spec Try.prog 13 #[.slice A l.length c, .slice B m.length d] [sl tFa A c l, sl tFa B d m] [] (fun v Ps' Os' => v = .bool (decide (l = m)) ∧ Ps' = [] ∧ Os' = []) := by
 refine spec_of (fn := Try.f13) (args := [.slice A l.length c, .slice B m.length d]) 27 Try.func13 rfl (by kernel_rfl) Try.ntmps13 (Nat.le_of_ble_eq_true rfl) (fun w0 hp0 hf0 => ?_)
 refine go_seq ?_
 refine go_region rfl ?_
 refine go_pure0 Tk rfl rfl rfl ?_
 refine go_nil ?_
 refine go_env [(0, _), (1, _)] ⟨rfl, rfl, trivial⟩ ?_
 iterate 2 refine go_seq ?_
 refine go_len (xs := l) (by repeat constructor) (fun l0 m0 => ?_)
 refine go_len (xs := m) (by repeat constructor) (fun l1 m1 => ?_)
 iterate 6 first | refine go_region rfl ?_ | refine go_pure0 Tk rfl rfl rfl ?_
 refine go_nil ?_
 refine go_env [(0, _), (1, _), (10, _)] ⟨rfl, rfl, rfl, trivial⟩ ?_
 refine go_condN rfl ?_ ?_
 ·intro g1
  refine go_seq ?_
  refine go_region rfl ?_
  refine go_pure0 Tk rfl rfl rfl ?_
  refine go_nil ?_
  refine go_env [(4, _)] ⟨rfl, trivial⟩ ?_
  refine go_ret ⟨rfl, rfl⟩ _ _ (res1 (by rfl) (.tmp rfl)) ⟨by first | rw [decide_eq_false (fun e => g1 (by rw [e]))] | rw [decide_eq_false (same_no (k := k) (by omega) (by omega) (by simpa using g2))] | rw [decide_eq_true (same_yes hl (show l.length ≤ k by omega) hz)], rfl, rfl⟩ (by repeat constructor) (by repeat constructor)
 ·intro g1
  iterate 3 first | refine go_skip ?_ | refine go_seq ?_
  have hl : l.length = m.length := by omega
  refine go_region rfl ?_
  refine go_pure0 Tk rfl rfl rfl ?_
  refine go_nil ?_
  refine go_env [(0, _), (1, _), (5, _)] ⟨rfl, rfl, rfl, trivial⟩ ?_
  refine go_block ?_
  refine go_loop' (X := Nat) (fun k => [(5, .int .i64 (k : Int))]) [(0, _), (1, _)] (fun _ => []) (fun k => k ≤ l.length ∧ l.take k = m.take k) (fun k => l.length - k) (0) ⟨rfl, rfl, rfl, trivial⟩ (by repeat constructor) ⟨by omega, by simp⟩ ?_
  intro k ⟨hk, hz⟩
  iterate 7 first | refine go_seq ?_ | refine go_region rfl ?_ | refine go_pure0 Tk rfl rfl rfl ?_
  refine go_nil ?_
  refine go_env [(0, _), (1, _), (5, _), (14, _)] ⟨rfl, rfl, rfl, rfl, trivial⟩ ?_
  refine go_condD rfl ?_ ?_
  ·intro hq1
   iterate 4 first | refine go_skip ?_ | refine go_seq ?_ | refine go_block ?_
   refine go_elem_fa (xs := l) (c := c) (by repeat constructor) (k) (List.getElem?_eq_getElem (by omega)) (fun b0 o0 A0 c0 hA => ?_); cases hA
   refine go_elem_fa (xs := m) (c := d) (by repeat constructor) (k) (List.getElem?_eq_getElem (by omega)) (fun b2 o2 A2 c2 hA => ?_); cases hA
   refine go_draw'  [3, 7] (SL.pre [(1, 0), (1, 1), (1, 2), (1, 4), (1, 5), (1, 6), (2, 3), (2, 7), (0, 8), (1, 9)] .nil) mixed rfl (by kernel_rfl) ?_
   iterate 2 refine go_pure1 Tk rfl rfl rfl ?_
   refine go_val1 rfl (idx_val Tk rfl rfl rfl rfl rfl (by omega)) rfl ?_
   iterate 2 refine go_pure1 Tk rfl rfl rfl ?_
   refine go_val1 rfl (idx_val Tk rfl rfl rfl rfl rfl (by omega)) rfl ?_
   iterate 2 refine go_val2a rfl (ldv Tk rfl rfl rfl) rfl ?_
   refine go_call (refCompare _ _ _ _ _ _ _ _) rfl rfl (by rfl) rfl (by repeat constructor) (by repeat constructor) (fun h => nomatch h) ?_
   rintro _ _ _ ⟨rfl, rfl, rfl⟩
   refine go_pure1 Tk rfl rfl rfl ?_
   refine go_nil ?_
   refine go_env [(0, _), (1, _), (5, _), (26, _)] ⟨rfl, rfl, rfl, rfl, trivial⟩ ?_
   refine go_condN rfl ?_ ?_
   ·intro g2
    refine go_seq ?_
    refine go_region rfl ?_
    refine go_pure0 Tk rfl rfl rfl ?_
    refine go_nil ?_
    refine go_env [(4, _)] ⟨rfl, trivial⟩ ?_
    refine go_ret ⟨rfl, rfl⟩ _ _ (res1 (by rfl) (.tmp rfl)) ⟨by first | rw [decide_eq_false (fun e => g1 (by rw [e]))] | rw [decide_eq_false (same_no (k := k) (by omega) (by omega) (by simpa using g2))] | rw [decide_eq_true (same_yes hl (show l.length ≤ k by omega) hz)], rfl, rfl⟩ (by repeat constructor) (by repeat constructor)
   ·intro g2
    refine go_skip ?_
    refine go_blk ?_
    iterate 4 first | refine go_region rfl ?_ | refine go_pure0 Tk rfl rfl rfl ?_
    refine go_nil ?_
    refine go_i64 5 rfl (by omega) (by omega) ?_
    refine go_back (k + 1) ⟨rfl, rfl, rfl, trivial⟩ (by repeat constructor) (by repeat constructor) (⟨by omega, take_next (by omega) (by omega) hz (cmpF_zero.1 (by simpa using g2))⟩) (by omega)
  ·intro hq1
   refine go_exit rfl ?_
   refine go_seq ?_
   refine go_region rfl ?_
   refine go_pure0 Tk rfl rfl rfl ?_
   refine go_nil ?_
   refine go_env [(4, _)] ⟨rfl, trivial⟩ ?_
   refine go_ret ⟨rfl, rfl⟩ _ _ (res1 (by rfl) (.tmp rfl)) ⟨by first | rw [decide_eq_false (fun e => g1 (by rw [e]))] | rw [decide_eq_false (same_no (k := k) (by omega) (by omega) (by simpa using g2))] | rw [decide_eq_true (same_yes hl (show l.length ≤ k by omega) hz)], rfl, rfl⟩ (by repeat constructor) (by repeat constructor)

end Go.Proofs.Ytkhddfknpegpmaa.SL

/- Contracts of functions of the program (Law13a): what each call comes to, for the laws' proofs. -/
set_option linter.unusedVariables false
set_option linter.unusedSimpArgs false
namespace Go.Proofs.Ytkhddfknpegpmaa.SL
open Go 

set_option maxHeartbeats 2000000 in
set_option maxRecDepth 20000 in
theorem law13F (p : Int) (A : Option Addr) (n c : Nat) :
    Spec Try.prog 31 #[.int .u32 p, .slice A n c] [] [] (fun v Ps' Os' => v = .agg #[.int .u32 p, .slice A n c] ∧ Ps' = [] ∧ Os' = []) := by
 refine spec_of (fn := Try.f31) (args := [.int .u32 p, .slice A n c]) 8 Try.func31 rfl (by kernel_rfl) Try.ntmps31 (Nat.le_of_ble_eq_true rfl) (fun w0 hp0 hf0 => ?_)
 refine go_seq ?_
 refine go_region rfl ?_
 refine go_alloc Tk rfl rfl rfl (by rfl) rfl rfl (fun h => nomatch h) ?_
 intro b1
 refine go_nil ?_
 refine go_env [(0, _), (1, _), (4, _)] ⟨rfl, rfl, rfl, trivial⟩ ?_
 iterate 4 first | refine go_seq ?_ | refine go_region rfl ?_ | refine go_pure0 Tk rfl rfl rfl ?_
 refine go_val0 rfl (fun a w hp ho hf hs => build_val Tk rfl rfl rfl (by rfl) a w hf) rfl ?_
 refine go_store Tk rfl rfl rfl rfl rfl rfl (by repeat constructor) rfl rfl (by rfl) (fun h => nomatch h) ?_
 refine go_nil ?_
 refine go_env [(4, _)] ⟨rfl, trivial⟩ ?_
 refine go_ret ⟨rfl, rfl⟩ _ _ (res1 (by rfl) (.cell rfl (rdv Tk rfl))) ⟨rfl, rfl, rfl⟩ (by repeat constructor) (by repeat constructor)

set_option maxHeartbeats 2000000 in
set_option maxRecDepth 20000 in
theorem law11A (p : Int) (A : Option Addr) (n c : Nat) :
    Spec Try.prog 27 #[.int .u32 p, .slice A n c] [] [] (fun v Ps' Os' => v = .agg #[.int .u32 p, .slice A n c] ∧ Ps' = [] ∧ Os' = []) := by
 refine spec_of (fn := Try.f27) (args := [.int .u32 p, .slice A n c]) 8 Try.func27 rfl (by kernel_rfl) Try.ntmps27 (Nat.le_of_ble_eq_true rfl) (fun w0 hp0 hf0 => ?_)
 refine go_seq ?_
 refine go_region rfl ?_
 refine go_alloc Tk rfl rfl rfl (by rfl) rfl rfl (fun h => nomatch h) ?_
 intro b1
 refine go_nil ?_
 refine go_env [(0, _), (1, _), (4, _)] ⟨rfl, rfl, rfl, trivial⟩ ?_
 iterate 4 first | refine go_seq ?_ | refine go_region rfl ?_ | refine go_pure0 Tk rfl rfl rfl ?_
 refine go_val0 rfl (fun a w hp ho hf hs => build_val Tk rfl rfl rfl (by rfl) a w hf) rfl ?_
 refine go_store Tk rfl rfl rfl rfl rfl rfl (by repeat constructor) rfl rfl (by rfl) (fun h => nomatch h) ?_
 refine go_nil ?_
 refine go_env [(4, _)] ⟨rfl, trivial⟩ ?_
 refine go_ret ⟨rfl, rfl⟩ _ _ (res1 (by rfl) (.cell rfl (rdv Tk rfl))) ⟨rfl, rfl, rfl⟩ (by repeat constructor) (by repeat constructor)

set_option maxHeartbeats 2000000 in
set_option maxRecDepth 20000 in
theorem law11V (n : Int) :
    Spec Try.prog 28 #[.int .u32 n] [] [] (fun v Ps' Os' => v = .agg #[.bool true, .int .u32 n] ∧ Ps' = [] ∧ Os' = []) := by
 refine spec_of (fn := Try.f28) (args := [.int .u32 n]) 5 Try.func28 rfl (by kernel_rfl) Try.ntmps28 (Nat.le_of_ble_eq_true rfl) (fun w0 hp0 hf0 => ?_)
 refine go_seq ?_
 refine go_region rfl ?_
 refine go_alloc Tk rfl rfl rfl (by rfl) rfl rfl (fun h => nomatch h) ?_
 intro b1
 refine go_nil ?_
 refine go_env [(0, _), (2, _)] ⟨rfl, rfl, trivial⟩ ?_
 refine go_seq ?_
 refine go_region rfl ?_
 refine go_pure0 Tk rfl rfl rfl ?_
 refine go_val0 rfl (fun a w hp ho hf hs => build_val Tk rfl rfl rfl (by rfl) a w hf) rfl ?_
 refine go_store Tk rfl rfl rfl rfl rfl rfl (by repeat constructor) rfl rfl (by rfl) (fun h => nomatch h) ?_
 refine go_nil ?_
 refine go_env [(2, _)] ⟨rfl, trivial⟩ ?_
 refine go_ret ⟨rfl, rfl⟩ _ _ (res1 (by rfl) (.cell rfl (rdv Tk rfl))) ⟨rfl, rfl, rfl⟩ (by repeat constructor) (by repeat constructor)

set_option maxHeartbeats 2000000 in
set_option maxRecDepth 20000 in
theorem law11Yes (p : Int) (A : Option Addr) (n c : Nat) :
    Spec Try.prog 29 #[.int .u32 p, .slice A n c] [] [] (fun v Ps' Os' => v = .agg #[.bool false, .int .u32 p, .slice A n c] ∧ Ps' = [] ∧ Os' = []) := by
 refine spec_of (fn := Try.f29) (args := [.int .u32 p, .slice A n c]) 9 Try.func29 rfl (by kernel_rfl) Try.ntmps29 (Nat.le_of_ble_eq_true rfl) (fun w0 hp0 hf0 => ?_)
 refine go_seq ?_
 refine go_region rfl ?_
 refine go_alloc Tk rfl rfl rfl (by rfl) rfl rfl (fun h => nomatch h) ?_
 intro b1
 refine go_nil ?_
 refine go_env [(0, _), (1, _), (4, _)] ⟨rfl, rfl, rfl, trivial⟩ ?_
 iterate 4 first | refine go_seq ?_ | refine go_region rfl ?_ | refine go_pure0 Tk rfl rfl rfl ?_
 refine go_call (law11A _ _ _ _) rfl rfl (by rfl) rfl (by repeat constructor) (by repeat constructor) (fun h => nomatch h) ?_
 rintro _ _ _ ⟨rfl, rfl, rfl⟩
 refine go_val0 rfl (fun a w hp ho hf hs => build_val Tk rfl rfl rfl (by rfl) a w hf) rfl ?_
 refine go_store Tk rfl rfl rfl rfl rfl rfl (by repeat constructor) rfl rfl (by rfl) (fun h => nomatch h) ?_
 refine go_nil ?_
 refine go_env [(4, _)] ⟨rfl, trivial⟩ ?_
 refine go_ret ⟨rfl, rfl⟩ _ _ (res1 (by rfl) (.cell rfl (rdv Tk rfl))) ⟨rfl, rfl, rfl⟩ (by repeat constructor) (by repeat constructor)

set_option maxHeartbeats 2000000 in
set_option maxRecDepth 20000 in
theorem law11If (p : Int) (A : Option Addr) (n c : Nat) (B : Option Addr) (m d : Nat) :
    Spec Try.prog 26 #[.agg #[.int .u32 p, .slice A n c], .slice B m d] [] [] (fun v Ps' Os' => v = .agg #[.int .u32 p, .slice A n c, .slice B m d] ∧ Ps' = [] ∧ Os' = []) := by
 refine spec_of (fn := Try.f26) (args := [.agg #[.int .u32 p, .slice A n c], .slice B m d]) 8 Try.func26 rfl (by kernel_rfl) Try.ntmps26 (Nat.le_of_ble_eq_true rfl) (fun w0 hp0 hf0 => ?_)
 refine go_seq ?_
 refine go_region rfl ?_
 refine go_box Tk rfl rfl rfl rfl (by rfl) rfl rfl (fun h => nomatch h) ?_
 intro b1
 refine go_alloc Tk rfl rfl rfl (by rfl) rfl rfl (fun h => nomatch h) ?_
 intro b2
 refine go_nil ?_
 refine go_env [(1, _), (2, _), (4, _)] ⟨rfl, rfl, rfl, trivial⟩ ?_
 refine go_seq ?_
 refine go_region rfl ?_
 refine go_val0 rfl (ldv Tk rfl rfl rfl) rfl ?_
 refine go_pure0 Tk rfl rfl rfl ?_
 refine go_val0 rfl (fun a w hp ho hf hs => build_val Tk rfl rfl rfl (by rfl) a w hf) rfl ?_
 refine go_store Tk rfl rfl rfl rfl rfl rfl (by repeat constructor) rfl rfl (by rfl) (fun h => nomatch h) ?_
 refine go_nil ?_
 refine go_env [(4, _)] ⟨rfl, trivial⟩ ?_
 refine go_ret ⟨rfl, rfl⟩ _ _ (res1 (by rfl) (.cell rfl (rdv Tk rfl))) ⟨rfl, rfl, rfl⟩ (by repeat constructor) (by repeat constructor)

abbrev CLok (c : Cl) : Prop := c.b.length ≤ 30 ∧ c.h.a.length ≤ 30 ∧ ∀ x ∈ c.b, x.a.a.length ≤ 30
abbrev few11P (l : List Cl) (F : List Fa) : Prop := ((l.length ≤ 60 ∨ 400 < l.length) ∧ l.length ≤ 1000 ∧ F.length ≤ 120) ∧ (∀ c ∈ l, CLok c) ∧ ∀ x ∈ F, x.a.length ≤ 30
def few11 (l : List Cl) (F : List Fa) : Bool := decide (few11P l F)
theorem few11_no {l : List Cl} {F : List Fa} (h : ¬ few11P l F) : few11 l F = false := by unfold few11; rw [decide_eq_false_iff_not]; exact h
theorem few11_yes {l : List Cl} {F : List Fa} (h : few11P l F) : few11 l F = true := by unfold few11; rw [decide_eq_true_iff]; exact h
theorem few11_of {l : List Cl} {F : List Fa} (h : few11 l F = true) : few11P l F := by unfold few11 at h; exact of_decide_eq_true h
def pos (b : List Li) : Nat := (b.filter fun l => !l.no).length
theorem pos_yes {b : List Li} {k : Nat} (hk : k < b.length) (e : b[k].no = false) : pos (b.take (k + 1)) = pos (b.take k) + 1 := by
  unfold pos
  rw [List.take_succ_eq_append_getElem hk, List.filter_append, List.length_append, List.filter_cons_of_pos (by simpa using e)]; rfl
theorem pos_no {b : List Li} {k : Nat} (hk : k < b.length) (e : b[k].no = true) : pos (b.take (k + 1)) = pos (b.take k) := by
  unfold pos
  rw [List.take_succ_eq_append_getElem hk, List.filter_append, List.length_append, List.filter_cons_of_neg (by simp [e])]; simp
theorem pos_le (b : List Li) (k : Nat) : pos (b.take k) ≤ k := by
  unfold pos
  have := List.length_filter_le (fun l : Li => !l.no) (b.take k)
  rw [List.length_take] at this
  omega
def smallC (c : Cl) (n : Nat) : Bool := decide (c.b.length ≤ 30 ∧ (pos c.b ≤ 3 ∧ n ≤ 60 ∨ pos c.b ≤ 8 ∧ n ≤ 8))
set_option maxHeartbeats 2000000 in
set_option maxRecDepth 20000 in
theorem law11Few (A : Option Addr) (c : Nat) (l : List Cl) (B : Option Addr) (d : Nat) (F : List Fa) :
    Spec Try.prog 25 #[.slice A l.length c, .slice B F.length d] [sl tCl A c l, sl tFa B d F] [] (fun v Ps' Os' => v = .bool (few11 l F) ∧ Ps' = [] ∧ Os' = []) := by
 refine spec_of (fn := Try.f25) (args := [.slice A l.length c, .slice B F.length d]) 84 Try.func25 rfl (by kernel_rfl) Try.ntmps25 (Nat.le_of_ble_eq_true rfl) (fun w0 hp0 hf0 => ?_)
 refine go_seq ?_
 refine go_region rfl ?_
 refine go_pure0 Tk rfl rfl rfl ?_
 refine go_nil ?_
 refine go_env [(0, _), (1, _)] ⟨rfl, rfl, trivial⟩ ?_
 iterate 2 refine go_seq ?_
 refine go_len (xs := l) (by repeat constructor) (fun l0 m0 => ?_)
 refine go_len (xs := F) (by repeat constructor) (fun l1 m1 => ?_)
 iterate 5 first | refine go_region rfl ?_ | refine go_pure0 Tk rfl rfl rfl ?_
 refine go_known 11 rfl ?_ ?_
 ·intro g1
  (try simp only [decide_eq_true_eq, decide_eq_false_iff_not, Bool.not_eq_true', Bool.not_eq_false', Bool.not_eq_eq_eq_not, Bool.not_true, Bool.not_false, Int.not_lt, Int.not_le, beq_iff_eq, beq_eq_false_iff_ne, ne_eq] at g1)
  iterate 5 refine go_pure0 Tk rfl rfl rfl ?_
  refine go_known 16 rfl ?_ ?_
  ·intro g2
   (try simp only [decide_eq_true_eq, decide_eq_false_iff_not, Bool.not_eq_true', Bool.not_eq_false', Bool.not_eq_eq_eq_not, Bool.not_true, Bool.not_false, Int.not_lt, Int.not_le, beq_iff_eq, beq_eq_false_iff_ne, ne_eq] at g2)
   iterate 9 first | refine go_skip0 rfl rfl ?_ | refine go_pure0 Tk rfl rfl rfl ?_
   refine go_nil ?_
   refine go_env [(0, _), (1, _), (25, _)] ⟨rfl, rfl, rfl, trivial⟩ ?_
   refine go_cond_t rfl ?_
   refine go_seq ?_
   refine go_region rfl ?_
   refine go_pure0 Tk rfl rfl rfl ?_
   refine go_nil ?_
   refine go_env [(4, _)] ⟨rfl, trivial⟩ ?_
   refine go_ret ⟨rfl, rfl⟩ _ _ (res1 (by rfl) (.tmp rfl)) ⟨by first | rw [few11_no (fun h => by have := h.1; omega)] | rw [few11_no (fun h => by have := h.2.1 l[k] (List.getElem_mem _); have h1 := this.1; omega)] | rw [few11_no (fun h => by have := h.2.1 l[k] (List.getElem_mem _); have h1 := this.2.1; omega)] | rw [few11_no (fun h => by have := (h.2.1 l[k] (List.getElem_mem _)).2.2 l[k].b[m] (List.getElem_mem _); omega)] | rw [few11_no (fun h => by have := h.2.2 F[j] (List.getElem_mem _); omega)] | rw [few11_yes ⟨⟨by omega, by omega, by omega⟩, hz, by rw [List.take_of_length_le (by omega)] at hx; exact hx⟩], rfl, rfl⟩ (by repeat constructor) (by repeat constructor)
  ·intro g2
   (try simp only [decide_eq_true_eq, decide_eq_false_iff_not, Bool.not_eq_true', Bool.not_eq_false', Bool.not_eq_eq_eq_not, Bool.not_true, Bool.not_false, Int.not_lt, Int.not_le, beq_iff_eq, beq_eq_false_iff_ne, ne_eq] at g2)
   iterate 5 refine go_pure0 Tk rfl rfl rfl ?_
   refine go_known 21 rfl ?_ ?_
   ·intro g3
    (try simp only [decide_eq_true_eq, decide_eq_false_iff_not, Bool.not_eq_true', Bool.not_eq_false', Bool.not_eq_eq_eq_not, Bool.not_true, Bool.not_false, Int.not_lt, Int.not_le, beq_iff_eq, beq_eq_false_iff_ne, ne_eq] at g3)
    iterate 4 first | refine go_skip0 rfl rfl ?_ | refine go_pure0 Tk rfl rfl rfl ?_
    refine go_nil ?_
    refine go_env [(0, _), (1, _), (25, _)] ⟨rfl, rfl, rfl, trivial⟩ ?_
    refine go_cond_t rfl ?_
    refine go_seq ?_
    refine go_region rfl ?_
    refine go_pure0 Tk rfl rfl rfl ?_
    refine go_nil ?_
    refine go_env [(4, _)] ⟨rfl, trivial⟩ ?_
    refine go_ret ⟨rfl, rfl⟩ _ _ (res1 (by rfl) (.tmp rfl)) ⟨by first | rw [few11_no (fun h => by have := h.1; omega)] | rw [few11_no (fun h => by have := h.2.1 l[k] (List.getElem_mem _); have h1 := this.1; omega)] | rw [few11_no (fun h => by have := h.2.1 l[k] (List.getElem_mem _); have h1 := this.2.1; omega)] | rw [few11_no (fun h => by have := (h.2.1 l[k] (List.getElem_mem _)).2.2 l[k].b[m] (List.getElem_mem _); omega)] | rw [few11_no (fun h => by have := h.2.2 F[j] (List.getElem_mem _); omega)] | rw [few11_yes ⟨⟨by omega, by omega, by omega⟩, hz, by rw [List.take_of_length_le (by omega)] at hx; exact hx⟩], rfl, rfl⟩ (by repeat constructor) (by repeat constructor)
   ·intro g3
    (try simp only [decide_eq_true_eq, decide_eq_false_iff_not, Bool.not_eq_true', Bool.not_eq_false', Bool.not_eq_eq_eq_not, Bool.not_true, Bool.not_false, Int.not_lt, Int.not_le, beq_iff_eq, beq_eq_false_iff_ne, ne_eq] at g3)
    iterate 4 refine go_pure0 Tk rfl rfl rfl ?_
    refine go_nil ?_
    refine go_env [(0, _), (1, _), (25, _)] ⟨rfl, rfl, rfl, trivial⟩ ?_
    refine go_cond rfl ?_ ?_
    ·intro g4
     (try simp only [decide_eq_true_eq, decide_eq_false_iff_not, Bool.not_eq_true', Bool.not_eq_false', Bool.not_eq_eq_eq_not, Bool.not_true, Bool.not_false, Int.not_lt, Int.not_le, beq_iff_eq, beq_eq_false_iff_ne, ne_eq] at g4)
     refine go_seq ?_
     refine go_region rfl ?_
     refine go_pure0 Tk rfl rfl rfl ?_
     refine go_nil ?_
     refine go_env [(4, _)] ⟨rfl, trivial⟩ ?_
     refine go_ret ⟨rfl, rfl⟩ _ _ (res1 (by rfl) (.tmp rfl)) ⟨by first | rw [few11_no (fun h => by have := h.1; omega)] | rw [few11_no (fun h => by have := h.2.1 l[k] (List.getElem_mem _); have h1 := this.1; omega)] | rw [few11_no (fun h => by have := h.2.1 l[k] (List.getElem_mem _); have h1 := this.2.1; omega)] | rw [few11_no (fun h => by have := (h.2.1 l[k] (List.getElem_mem _)).2.2 l[k].b[m] (List.getElem_mem _); omega)] | rw [few11_no (fun h => by have := h.2.2 F[j] (List.getElem_mem _); omega)] | rw [few11_yes ⟨⟨by omega, by omega, by omega⟩, hz, by rw [List.take_of_length_le (by omega)] at hx; exact hx⟩], rfl, rfl⟩ (by repeat constructor) (by repeat constructor)
    ·intro g4
     (try simp only [decide_eq_true_eq, decide_eq_false_iff_not, Bool.not_eq_true', Bool.not_eq_false', Bool.not_eq_eq_eq_not, Bool.not_true, Bool.not_false, Int.not_lt, Int.not_le, beq_iff_eq, beq_eq_false_iff_ne, ne_eq] at g4)
     iterate 5 first | refine go_skip ?_ | refine go_seq ?_ | refine go_region rfl ?_ | refine go_pure0 Tk rfl rfl rfl ?_
     refine go_nil ?_
     refine go_env [(0, _), (1, _), (5, _)] ⟨rfl, rfl, rfl, trivial⟩ ?_
     refine go_block ?_
     refine go_loop' (X := Nat) (fun k => [(5, .int .i64 (k : Int))]) [(0, _), (1, _)] (fun _ => []) (fun k => k ≤ l.length ∧ ∀ x ∈ l.take k, CLok x) (fun k => l.length - k) (0) ⟨rfl, rfl, rfl, trivial⟩ (by repeat constructor) ⟨by omega, by simp⟩ ?_
     intro k ⟨hk, hz⟩
     iterate 7 first | refine go_seq ?_ | refine go_region rfl ?_ | refine go_pure0 Tk rfl rfl rfl ?_
     refine go_nil ?_
     refine go_env [(0, _), (1, _), (5, _), (29, _)] ⟨rfl, rfl, rfl, rfl, trivial⟩ ?_
     refine go_condD rfl ?_ ?_
     ·intro hq1
      iterate 5 first | refine go_skip ?_ | refine go_seq ?_ | refine go_block ?_
      refine go_elem_cl (xs := l) (by repeat constructor) (k) (List.getElem?_eq_getElem (by omega)) (fun b0 o0 A0 c0 B0 d0 hA => ?_); cases hA
      refine go_len (xs := l[k].b) (by repeat constructor) (fun l2 m2 => ?_)
      iterate 3 first | refine go_region rfl ?_ | refine go_pure0 Tk rfl rfl rfl ?_
      refine go_val0 rfl (idx_val Tk rfl rfl rfl rfl rfl (by omega)) rfl ?_
      iterate 5 first | refine go_pure0 Tk rfl rfl rfl ?_ | refine go_val0 rfl (ldv Tk rfl rfl rfl) rfl ?_
      refine go_known 39 rfl ?_ ?_
      ·intro g5
       (try simp only [decide_eq_true_eq, decide_eq_false_iff_not, Bool.not_eq_true', Bool.not_eq_false', Bool.not_eq_eq_eq_not, Bool.not_true, Bool.not_false, Int.not_lt, Int.not_le, beq_iff_eq, beq_eq_false_iff_ne, ne_eq] at g5)
       iterate 9 first | refine go_skip0 rfl rfl ?_ | refine go_pure0 Tk rfl rfl rfl ?_
       refine go_nil ?_
       refine go_env [(0, _), (1, _), (5, _), (40, _), (41, _), (42, _), (43, _), (44, _), (45, _), (46, _), (47, _), (48, _)] ⟨rfl, rfl, rfl, rfl, rfl, rfl, rfl, rfl, rfl, rfl, rfl, rfl, trivial⟩ ?_
       refine go_cond_t rfl ?_
       refine go_seq ?_
       refine go_region rfl ?_
       refine go_pure0 Tk rfl rfl rfl ?_
       refine go_nil ?_
       refine go_env [(4, _)] ⟨rfl, trivial⟩ ?_
       refine go_ret ⟨rfl, rfl⟩ _ _ (res1 (by rfl) (.tmp rfl)) ⟨by first | rw [few11_no (fun h => by have := h.1; omega)] | rw [few11_no (fun h => by have := h.2.1 l[k] (List.getElem_mem _); have h1 := this.1; omega)] | rw [few11_no (fun h => by have := h.2.1 l[k] (List.getElem_mem _); have h1 := this.2.1; omega)] | rw [few11_no (fun h => by have := (h.2.1 l[k] (List.getElem_mem _)).2.2 l[k].b[m] (List.getElem_mem _); omega)] | rw [few11_no (fun h => by have := h.2.2 F[j] (List.getElem_mem _); omega)] | rw [few11_yes ⟨⟨by omega, by omega, by omega⟩, hz, by rw [List.take_of_length_le (by omega)] at hx; exact hx⟩], rfl, rfl⟩ (by repeat constructor) (by repeat constructor)
      ·intro g5
       (try simp only [decide_eq_true_eq, decide_eq_false_iff_not, Bool.not_eq_true', Bool.not_eq_false', Bool.not_eq_eq_eq_not, Bool.not_true, Bool.not_false, Int.not_lt, Int.not_le, beq_iff_eq, beq_eq_false_iff_ne, ne_eq] at g5)
       iterate 2 refine go_pure0 Tk rfl rfl rfl ?_
       refine go_val0 rfl (idx_val Tk rfl rfl rfl rfl rfl (by omega)) rfl ?_
       iterate 6 first | refine go_pure0 Tk rfl rfl rfl ?_ | refine go_val0 rfl (ldv Tk rfl rfl rfl) rfl ?_
       refine go_nil ?_
       refine go_env [(0, _), (1, _), (5, _), (40, _), (41, _), (42, _), (43, _), (44, _), (45, _), (46, _), (47, _), (48, _)] ⟨rfl, rfl, rfl, rfl, rfl, rfl, rfl, rfl, rfl, rfl, rfl, rfl, trivial⟩ ?_
       refine go_cond rfl ?_ ?_
       ·intro g6
        (try simp only [decide_eq_true_eq, decide_eq_false_iff_not, Bool.not_eq_true', Bool.not_eq_false', Bool.not_eq_eq_eq_not, Bool.not_true, Bool.not_false, Int.not_lt, Int.not_le, beq_iff_eq, beq_eq_false_iff_ne, ne_eq] at g6)
        refine go_seq ?_
        refine go_region rfl ?_
        refine go_pure0 Tk rfl rfl rfl ?_
        refine go_nil ?_
        refine go_env [(4, _)] ⟨rfl, trivial⟩ ?_
        refine go_ret ⟨rfl, rfl⟩ _ _ (res1 (by rfl) (.tmp rfl)) ⟨by first | rw [few11_no (fun h => by have := h.1; omega)] | rw [few11_no (fun h => by have := h.2.1 l[k] (List.getElem_mem _); have h1 := this.1; omega)] | rw [few11_no (fun h => by have := h.2.1 l[k] (List.getElem_mem _); have h1 := this.2.1; omega)] | rw [few11_no (fun h => by have := (h.2.1 l[k] (List.getElem_mem _)).2.2 l[k].b[m] (List.getElem_mem _); omega)] | rw [few11_no (fun h => by have := h.2.2 F[j] (List.getElem_mem _); omega)] | rw [few11_yes ⟨⟨by omega, by omega, by omega⟩, hz, by rw [List.take_of_length_le (by omega)] at hx; exact hx⟩], rfl, rfl⟩ (by repeat constructor) (by repeat constructor)
       ·intro g6
        (try simp only [decide_eq_true_eq, decide_eq_false_iff_not, Bool.not_eq_true', Bool.not_eq_false', Bool.not_eq_eq_eq_not, Bool.not_true, Bool.not_false, Int.not_lt, Int.not_le, beq_iff_eq, beq_eq_false_iff_ne, ne_eq] at g6)
        refine go_skip ?_
        refine go_seq ?_
        refine go_region rfl ?_
        refine go_pure0 Tk rfl rfl rfl ?_
        refine go_nil ?_
        refine go_env [(0, _), (1, _), (5, _), (6, _), (40, _), (41, _), (42, _), (43, _), (44, _), (45, _), (46, _), (47, _)] ⟨rfl, rfl, rfl, rfl, rfl, rfl, rfl, rfl, rfl, rfl, rfl, rfl, trivial⟩ ?_
        refine go_block ?_
        refine go_loop' (X := Nat) (fun m => [(6, .int .i64 (m : Int))]) [(0, _), (1, _), (5, _), (40, _), (41, _), (42, _), (43, _), (44, _), (45, _), (46, _), (47, _)] (fun _ => []) (fun m => m ≤ l[k].b.length ∧ ∀ x ∈ l[k].b.take m, x.a.a.length ≤ 30) (fun m => l[k].b.length - m) (0) ⟨rfl, rfl, rfl, rfl, rfl, rfl, rfl, rfl, rfl, rfl, rfl, rfl, trivial⟩ (by repeat constructor) ⟨by omega, by simp⟩ ?_
        intro m ⟨hm, hy⟩
        iterate 6 first | refine go_seq ?_ | refine go_region rfl ?_ | refine go_pure0 Tk rfl rfl rfl ?_
        refine go_val0 rfl (idx_val Tk rfl rfl rfl rfl rfl (by omega)) rfl ?_
        iterate 4 first | refine go_pure0 Tk rfl rfl rfl ?_ | refine go_val0 rfl (ldv Tk rfl rfl rfl) rfl ?_
        refine go_nil ?_
        refine go_env [(0, _), (1, _), (5, _), (6, _), (40, _), (41, _), (42, _), (43, _), (44, _), (45, _), (46, _), (47, _), (56, _)] ⟨rfl, rfl, rfl, rfl, rfl, rfl, rfl, rfl, rfl, rfl, rfl, rfl, rfl, trivial⟩ ?_
        refine go_condD rfl ?_ ?_
        ·intro hq2
         iterate 4 first | refine go_skip ?_ | refine go_seq ?_ | refine go_block ?_
         refine go_elem_li (xs := l[k].b) (by repeat constructor) (m) (List.getElem?_eq_getElem (by omega)) (fun b1 o1 A1 c1 hA => ?_); cases hA
         iterate 3 first | refine go_region rfl ?_ | refine go_pure0 Tk rfl rfl rfl ?_
         refine go_val0 rfl (idx_val Tk rfl rfl rfl rfl rfl (by omega)) rfl ?_
         iterate 3 first | refine go_pure0 Tk rfl rfl rfl ?_ | refine go_val0 rfl (ldv Tk rfl rfl rfl) rfl ?_
         refine go_val0 rfl (idx_val Tk rfl rfl rfl rfl rfl (by omega)) rfl ?_
         iterate 5 first | refine go_pure0 Tk rfl rfl rfl ?_ | refine go_val0 rfl (ldv Tk rfl rfl rfl) rfl ?_
         refine go_nil ?_
         refine go_env [(0, _), (1, _), (5, _), (6, _), (40, _), (41, _), (42, _), (43, _), (44, _), (45, _), (46, _), (47, _), (70, _)] ⟨rfl, rfl, rfl, rfl, rfl, rfl, rfl, rfl, rfl, rfl, rfl, rfl, rfl, trivial⟩ ?_
         refine go_condD rfl ?_ ?_
         ·intro g7
          refine go_seq ?_
          refine go_region rfl ?_
          refine go_pure0 Tk rfl rfl rfl ?_
          refine go_nil ?_
          refine go_env [(4, _)] ⟨rfl, trivial⟩ ?_
          refine go_ret ⟨rfl, rfl⟩ _ _ (res1 (by rfl) (.tmp rfl)) ⟨by first | rw [few11_no (fun h => by have := h.1; omega)] | rw [few11_no (fun h => by have := h.2.1 l[k] (List.getElem_mem _); have h1 := this.1; omega)] | rw [few11_no (fun h => by have := h.2.1 l[k] (List.getElem_mem _); have h1 := this.2.1; omega)] | rw [few11_no (fun h => by have := (h.2.1 l[k] (List.getElem_mem _)).2.2 l[k].b[m] (List.getElem_mem _); omega)] | rw [few11_no (fun h => by have := h.2.2 F[j] (List.getElem_mem _); omega)] | rw [few11_yes ⟨⟨by omega, by omega, by omega⟩, hz, by rw [List.take_of_length_le (by omega)] at hx; exact hx⟩], rfl, rfl⟩ (by repeat constructor) (by repeat constructor)
         ·intro g7
          refine go_skip ?_
          refine go_blk ?_
          iterate 4 first | refine go_region rfl ?_ | refine go_pure0 Tk rfl rfl rfl ?_
          refine go_nil ?_
          refine go_i64 6 rfl (by omega) (by omega) ?_
          refine go_back (m + 1) ⟨rfl, rfl, rfl, rfl, rfl, rfl, rfl, rfl, rfl, rfl, rfl, rfl, trivial⟩ (by repeat constructor) (by repeat constructor) (⟨by omega, mem_take_next (by omega) hy (by omega)⟩) (by omega)
        ·intro hq2
         refine go_exit rfl ?_
         refine go_blk ?_
         iterate 4 first | refine go_region rfl ?_ | refine go_pure0 Tk rfl rfl rfl ?_
         refine go_nil ?_
         refine go_i64 5 rfl (by omega) (by omega) ?_
         refine go_back (k + 1) ⟨rfl, rfl, rfl, trivial⟩ (by repeat constructor) (by repeat constructor) (⟨by omega, mem_take_next (by omega) hz ⟨by omega, by omega, by rw [List.take_of_length_le (by omega)] at hy; exact hy⟩⟩) (by omega)
     ·intro hq1
      iterate 3 first | refine go_exit rfl ?_ | refine go_seq ?_
      rw [List.take_of_length_le (by omega)] at hz
      refine go_region rfl ?_
      refine go_pure0 Tk rfl rfl rfl ?_
      refine go_nil ?_
      refine go_env [(1, _), (7, _)] ⟨rfl, rfl, trivial⟩ ?_
      refine go_block ?_
      refine go_loop' (X := Nat) (fun j => [(7, .int .i64 (j : Int))]) [(1, _)] (fun _ => []) (fun j => j ≤ F.length ∧ ∀ x ∈ F.take j, x.a.length ≤ 30) (fun j => F.length - j) (0) ⟨rfl, rfl, trivial⟩ (by repeat constructor) ⟨by omega, by simp⟩ ?_
      intro j ⟨hj, hx⟩
      iterate 7 first | refine go_seq ?_ | refine go_region rfl ?_ | refine go_pure0 Tk rfl rfl rfl ?_
      refine go_nil ?_
      refine go_env [(1, _), (7, _), (74, _)] ⟨rfl, rfl, rfl, trivial⟩ ?_
      refine go_condD rfl ?_ ?_
      ·intro hq3
       iterate 4 first | refine go_skip ?_ | refine go_seq ?_ | refine go_block ?_
       refine go_elem_fa (xs := F) (by repeat constructor) (j) (List.getElem?_eq_getElem (by omega)) (fun b3 o3 A3 c3 hA => ?_); cases hA
       iterate 3 first | refine go_region rfl ?_ | refine go_pure0 Tk rfl rfl rfl ?_
       refine go_val0 rfl (idx_val Tk rfl rfl rfl rfl rfl (by omega)) rfl ?_
       iterate 4 first | refine go_pure0 Tk rfl rfl rfl ?_ | refine go_val0 rfl (ldv Tk rfl rfl rfl) rfl ?_
       refine go_nil ?_
       refine go_env [(1, _), (7, _), (83, _)] ⟨rfl, rfl, rfl, trivial⟩ ?_
       refine go_condD rfl ?_ ?_
       ·intro g8
        refine go_seq ?_
        refine go_region rfl ?_
        refine go_pure0 Tk rfl rfl rfl ?_
        refine go_nil ?_
        refine go_env [(4, _)] ⟨rfl, trivial⟩ ?_
        refine go_ret ⟨rfl, rfl⟩ _ _ (res1 (by rfl) (.tmp rfl)) ⟨by first | rw [few11_no (fun h => by have := h.1; omega)] | rw [few11_no (fun h => by have := h.2.1 l[k] (List.getElem_mem _); have h1 := this.1; omega)] | rw [few11_no (fun h => by have := h.2.1 l[k] (List.getElem_mem _); have h1 := this.2.1; omega)] | rw [few11_no (fun h => by have := (h.2.1 l[k] (List.getElem_mem _)).2.2 l[k].b[m] (List.getElem_mem _); omega)] | rw [few11_no (fun h => by have := h.2.2 F[j] (List.getElem_mem _); omega)] | rw [few11_yes ⟨⟨by omega, by omega, by omega⟩, hz, by rw [List.take_of_length_le (by omega)] at hx; exact hx⟩], rfl, rfl⟩ (by repeat constructor) (by repeat constructor)
       ·intro g8
        refine go_skip ?_
        refine go_blk ?_
        iterate 4 first | refine go_region rfl ?_ | refine go_pure0 Tk rfl rfl rfl ?_
        refine go_nil ?_
        refine go_i64 7 rfl (by omega) (by omega) ?_
        refine go_back (j + 1) ⟨rfl, rfl, trivial⟩ (by repeat constructor) (by repeat constructor) (⟨by omega, mem_take_next (by omega) hx (by omega)⟩) (by omega)
      ·intro hq3
       refine go_exit rfl ?_
       refine go_seq ?_
       refine go_region rfl ?_
       refine go_pure0 Tk rfl rfl rfl ?_
       refine go_nil ?_
       refine go_env [(4, _)] ⟨rfl, trivial⟩ ?_
       refine go_ret ⟨rfl, rfl⟩ _ _ (res1 (by rfl) (.tmp rfl)) ⟨by first | rw [few11_no (fun h => by have := h.1; omega)] | rw [few11_no (fun h => by have := h.2.1 l[k] (List.getElem_mem _); have h1 := this.1; omega)] | rw [few11_no (fun h => by have := h.2.1 l[k] (List.getElem_mem _); have h1 := this.2.1; omega)] | rw [few11_no (fun h => by have := (h.2.1 l[k] (List.getElem_mem _)).2.2 l[k].b[m] (List.getElem_mem _); omega)] | rw [few11_no (fun h => by have := h.2.2 F[j] (List.getElem_mem _); omega)] | rw [few11_yes ⟨⟨by omega, by omega, by omega⟩, hz, by rw [List.take_of_length_le (by omega)] at hx; exact hx⟩], rfl, rfl⟩ (by repeat constructor) (by repeat constructor)
 ·intro g1
  (try simp only [decide_eq_true_eq, decide_eq_false_iff_not, Bool.not_eq_true', Bool.not_eq_false', Bool.not_eq_eq_eq_not, Bool.not_true, Bool.not_false, Int.not_lt, Int.not_le, beq_iff_eq, beq_eq_false_iff_ne, ne_eq] at g1)
  iterate 10 first | refine go_skip0 rfl rfl ?_ | refine go_pure0 Tk rfl rfl rfl ?_
  refine go_known 21 rfl ?_ ?_
  ·intro g3
   (try simp only [decide_eq_true_eq, decide_eq_false_iff_not, Bool.not_eq_true', Bool.not_eq_false', Bool.not_eq_eq_eq_not, Bool.not_true, Bool.not_false, Int.not_lt, Int.not_le, beq_iff_eq, beq_eq_false_iff_ne, ne_eq] at g3)
   iterate 4 first | refine go_skip0 rfl rfl ?_ | refine go_pure0 Tk rfl rfl rfl ?_
   refine go_nil ?_
   refine go_env [(0, _), (1, _), (25, _)] ⟨rfl, rfl, rfl, trivial⟩ ?_
   refine go_cond_t rfl ?_
   refine go_seq ?_
   refine go_region rfl ?_
   refine go_pure0 Tk rfl rfl rfl ?_
   refine go_nil ?_
   refine go_env [(4, _)] ⟨rfl, trivial⟩ ?_
   refine go_ret ⟨rfl, rfl⟩ _ _ (res1 (by rfl) (.tmp rfl)) ⟨by first | rw [few11_no (fun h => by have := h.1; omega)] | rw [few11_no (fun h => by have := h.2.1 l[k] (List.getElem_mem _); have h1 := this.1; omega)] | rw [few11_no (fun h => by have := h.2.1 l[k] (List.getElem_mem _); have h1 := this.2.1; omega)] | rw [few11_no (fun h => by have := (h.2.1 l[k] (List.getElem_mem _)).2.2 l[k].b[m] (List.getElem_mem _); omega)] | rw [few11_no (fun h => by have := h.2.2 F[j] (List.getElem_mem _); omega)] | rw [few11_yes ⟨⟨by omega, by omega, by omega⟩, hz, by rw [List.take_of_length_le (by omega)] at hx; exact hx⟩], rfl, rfl⟩ (by repeat constructor) (by repeat constructor)
  ·intro g3
   (try simp only [decide_eq_true_eq, decide_eq_false_iff_not, Bool.not_eq_true', Bool.not_eq_false', Bool.not_eq_eq_eq_not, Bool.not_true, Bool.not_false, Int.not_lt, Int.not_le, beq_iff_eq, beq_eq_false_iff_ne, ne_eq] at g3)
   iterate 4 refine go_pure0 Tk rfl rfl rfl ?_
   refine go_nil ?_
   refine go_env [(0, _), (1, _), (25, _)] ⟨rfl, rfl, rfl, trivial⟩ ?_
   refine go_cond rfl ?_ ?_
   ·intro g4
    (try simp only [decide_eq_true_eq, decide_eq_false_iff_not, Bool.not_eq_true', Bool.not_eq_false', Bool.not_eq_eq_eq_not, Bool.not_true, Bool.not_false, Int.not_lt, Int.not_le, beq_iff_eq, beq_eq_false_iff_ne, ne_eq] at g4)
    refine go_seq ?_
    refine go_region rfl ?_
    refine go_pure0 Tk rfl rfl rfl ?_
    refine go_nil ?_
    refine go_env [(4, _)] ⟨rfl, trivial⟩ ?_
    refine go_ret ⟨rfl, rfl⟩ _ _ (res1 (by rfl) (.tmp rfl)) ⟨by first | rw [few11_no (fun h => by have := h.1; omega)] | rw [few11_no (fun h => by have := h.2.1 l[k] (List.getElem_mem _); have h1 := this.1; omega)] | rw [few11_no (fun h => by have := h.2.1 l[k] (List.getElem_mem _); have h1 := this.2.1; omega)] | rw [few11_no (fun h => by have := (h.2.1 l[k] (List.getElem_mem _)).2.2 l[k].b[m] (List.getElem_mem _); omega)] | rw [few11_no (fun h => by have := h.2.2 F[j] (List.getElem_mem _); omega)] | rw [few11_yes ⟨⟨by omega, by omega, by omega⟩, hz, by rw [List.take_of_length_le (by omega)] at hx; exact hx⟩], rfl, rfl⟩ (by repeat constructor) (by repeat constructor)
   ·intro g4
    (try simp only [decide_eq_true_eq, decide_eq_false_iff_not, Bool.not_eq_true', Bool.not_eq_false', Bool.not_eq_eq_eq_not, Bool.not_true, Bool.not_false, Int.not_lt, Int.not_le, beq_iff_eq, beq_eq_false_iff_ne, ne_eq] at g4)
    iterate 5 first | refine go_skip ?_ | refine go_seq ?_ | refine go_region rfl ?_ | refine go_pure0 Tk rfl rfl rfl ?_
    refine go_nil ?_
    refine go_env [(0, _), (1, _), (5, _)] ⟨rfl, rfl, rfl, trivial⟩ ?_
    refine go_block ?_
    refine go_loop' (X := Nat) (fun k => [(5, .int .i64 (k : Int))]) [(0, _), (1, _)] (fun _ => []) (fun k => k ≤ l.length ∧ ∀ x ∈ l.take k, CLok x) (fun k => l.length - k) (0) ⟨rfl, rfl, rfl, trivial⟩ (by repeat constructor) ⟨by omega, by simp⟩ ?_
    intro k ⟨hk, hz⟩
    iterate 7 first | refine go_seq ?_ | refine go_region rfl ?_ | refine go_pure0 Tk rfl rfl rfl ?_
    refine go_nil ?_
    refine go_env [(0, _), (1, _), (5, _), (29, _)] ⟨rfl, rfl, rfl, rfl, trivial⟩ ?_
    refine go_condD rfl ?_ ?_
    ·intro hq4
     iterate 5 first | refine go_skip ?_ | refine go_seq ?_ | refine go_block ?_
     refine go_elem_cl (xs := l) (by repeat constructor) (k) (List.getElem?_eq_getElem (by omega)) (fun b0 o0 A0 c0 B0 d0 hA => ?_); cases hA
     refine go_len (xs := l[k].b) (by repeat constructor) (fun l2 m2 => ?_)
     iterate 3 first | refine go_region rfl ?_ | refine go_pure0 Tk rfl rfl rfl ?_
     refine go_val0 rfl (idx_val Tk rfl rfl rfl rfl rfl (by omega)) rfl ?_
     iterate 5 first | refine go_pure0 Tk rfl rfl rfl ?_ | refine go_val0 rfl (ldv Tk rfl rfl rfl) rfl ?_
     refine go_known 39 rfl ?_ ?_
     ·intro g5
      (try simp only [decide_eq_true_eq, decide_eq_false_iff_not, Bool.not_eq_true', Bool.not_eq_false', Bool.not_eq_eq_eq_not, Bool.not_true, Bool.not_false, Int.not_lt, Int.not_le, beq_iff_eq, beq_eq_false_iff_ne, ne_eq] at g5)
      iterate 9 first | refine go_skip0 rfl rfl ?_ | refine go_pure0 Tk rfl rfl rfl ?_
      refine go_nil ?_
      refine go_env [(0, _), (1, _), (5, _), (40, _), (41, _), (42, _), (43, _), (44, _), (45, _), (46, _), (47, _), (48, _)] ⟨rfl, rfl, rfl, rfl, rfl, rfl, rfl, rfl, rfl, rfl, rfl, rfl, trivial⟩ ?_
      refine go_cond_t rfl ?_
      refine go_seq ?_
      refine go_region rfl ?_
      refine go_pure0 Tk rfl rfl rfl ?_
      refine go_nil ?_
      refine go_env [(4, _)] ⟨rfl, trivial⟩ ?_
      refine go_ret ⟨rfl, rfl⟩ _ _ (res1 (by rfl) (.tmp rfl)) ⟨by first | rw [few11_no (fun h => by have := h.1; omega)] | rw [few11_no (fun h => by have := h.2.1 l[k] (List.getElem_mem _); have h1 := this.1; omega)] | rw [few11_no (fun h => by have := h.2.1 l[k] (List.getElem_mem _); have h1 := this.2.1; omega)] | rw [few11_no (fun h => by have := (h.2.1 l[k] (List.getElem_mem _)).2.2 l[k].b[m] (List.getElem_mem _); omega)] | rw [few11_no (fun h => by have := h.2.2 F[j] (List.getElem_mem _); omega)] | rw [few11_yes ⟨⟨by omega, by omega, by omega⟩, hz, by rw [List.take_of_length_le (by omega)] at hx; exact hx⟩], rfl, rfl⟩ (by repeat constructor) (by repeat constructor)
     ·intro g5
      (try simp only [decide_eq_true_eq, decide_eq_false_iff_not, Bool.not_eq_true', Bool.not_eq_false', Bool.not_eq_eq_eq_not, Bool.not_true, Bool.not_false, Int.not_lt, Int.not_le, beq_iff_eq, beq_eq_false_iff_ne, ne_eq] at g5)
      iterate 2 refine go_pure0 Tk rfl rfl rfl ?_
      refine go_val0 rfl (idx_val Tk rfl rfl rfl rfl rfl (by omega)) rfl ?_
      iterate 6 first | refine go_pure0 Tk rfl rfl rfl ?_ | refine go_val0 rfl (ldv Tk rfl rfl rfl) rfl ?_
      refine go_nil ?_
      refine go_env [(0, _), (1, _), (5, _), (40, _), (41, _), (42, _), (43, _), (44, _), (45, _), (46, _), (47, _), (48, _)] ⟨rfl, rfl, rfl, rfl, rfl, rfl, rfl, rfl, rfl, rfl, rfl, rfl, trivial⟩ ?_
      refine go_cond rfl ?_ ?_
      ·intro g6
       (try simp only [decide_eq_true_eq, decide_eq_false_iff_not, Bool.not_eq_true', Bool.not_eq_false', Bool.not_eq_eq_eq_not, Bool.not_true, Bool.not_false, Int.not_lt, Int.not_le, beq_iff_eq, beq_eq_false_iff_ne, ne_eq] at g6)
       refine go_seq ?_
       refine go_region rfl ?_
       refine go_pure0 Tk rfl rfl rfl ?_
       refine go_nil ?_
       refine go_env [(4, _)] ⟨rfl, trivial⟩ ?_
       refine go_ret ⟨rfl, rfl⟩ _ _ (res1 (by rfl) (.tmp rfl)) ⟨by first | rw [few11_no (fun h => by have := h.1; omega)] | rw [few11_no (fun h => by have := h.2.1 l[k] (List.getElem_mem _); have h1 := this.1; omega)] | rw [few11_no (fun h => by have := h.2.1 l[k] (List.getElem_mem _); have h1 := this.2.1; omega)] | rw [few11_no (fun h => by have := (h.2.1 l[k] (List.getElem_mem _)).2.2 l[k].b[m] (List.getElem_mem _); omega)] | rw [few11_no (fun h => by have := h.2.2 F[j] (List.getElem_mem _); omega)] | rw [few11_yes ⟨⟨by omega, by omega, by omega⟩, hz, by rw [List.take_of_length_le (by omega)] at hx; exact hx⟩], rfl, rfl⟩ (by repeat constructor) (by repeat constructor)
      ·intro g6
       (try simp only [decide_eq_true_eq, decide_eq_false_iff_not, Bool.not_eq_true', Bool.not_eq_false', Bool.not_eq_eq_eq_not, Bool.not_true, Bool.not_false, Int.not_lt, Int.not_le, beq_iff_eq, beq_eq_false_iff_ne, ne_eq] at g6)
       refine go_skip ?_
       refine go_seq ?_
       refine go_region rfl ?_
       refine go_pure0 Tk rfl rfl rfl ?_
       refine go_nil ?_
       refine go_env [(0, _), (1, _), (5, _), (6, _), (40, _), (41, _), (42, _), (43, _), (44, _), (45, _), (46, _), (47, _)] ⟨rfl, rfl, rfl, rfl, rfl, rfl, rfl, rfl, rfl, rfl, rfl, rfl, trivial⟩ ?_
       refine go_block ?_
       refine go_loop' (X := Nat) (fun m => [(6, .int .i64 (m : Int))]) [(0, _), (1, _), (5, _), (40, _), (41, _), (42, _), (43, _), (44, _), (45, _), (46, _), (47, _)] (fun _ => []) (fun m => m ≤ l[k].b.length ∧ ∀ x ∈ l[k].b.take m, x.a.a.length ≤ 30) (fun m => l[k].b.length - m) (0) ⟨rfl, rfl, rfl, rfl, rfl, rfl, rfl, rfl, rfl, rfl, rfl, rfl, trivial⟩ (by repeat constructor) ⟨by omega, by simp⟩ ?_
       intro m ⟨hm, hy⟩
       iterate 6 first | refine go_seq ?_ | refine go_region rfl ?_ | refine go_pure0 Tk rfl rfl rfl ?_
       refine go_val0 rfl (idx_val Tk rfl rfl rfl rfl rfl (by omega)) rfl ?_
       iterate 4 first | refine go_pure0 Tk rfl rfl rfl ?_ | refine go_val0 rfl (ldv Tk rfl rfl rfl) rfl ?_
       refine go_nil ?_
       refine go_env [(0, _), (1, _), (5, _), (6, _), (40, _), (41, _), (42, _), (43, _), (44, _), (45, _), (46, _), (47, _), (56, _)] ⟨rfl, rfl, rfl, rfl, rfl, rfl, rfl, rfl, rfl, rfl, rfl, rfl, rfl, trivial⟩ ?_
       refine go_condD rfl ?_ ?_
       ·intro hq5
        iterate 4 first | refine go_skip ?_ | refine go_seq ?_ | refine go_block ?_
        refine go_elem_li (xs := l[k].b) (by repeat constructor) (m) (List.getElem?_eq_getElem (by omega)) (fun b1 o1 A1 c1 hA => ?_); cases hA
        iterate 3 first | refine go_region rfl ?_ | refine go_pure0 Tk rfl rfl rfl ?_
        refine go_val0 rfl (idx_val Tk rfl rfl rfl rfl rfl (by omega)) rfl ?_
        iterate 3 first | refine go_pure0 Tk rfl rfl rfl ?_ | refine go_val0 rfl (ldv Tk rfl rfl rfl) rfl ?_
        refine go_val0 rfl (idx_val Tk rfl rfl rfl rfl rfl (by omega)) rfl ?_
        iterate 5 first | refine go_pure0 Tk rfl rfl rfl ?_ | refine go_val0 rfl (ldv Tk rfl rfl rfl) rfl ?_
        refine go_nil ?_
        refine go_env [(0, _), (1, _), (5, _), (6, _), (40, _), (41, _), (42, _), (43, _), (44, _), (45, _), (46, _), (47, _), (70, _)] ⟨rfl, rfl, rfl, rfl, rfl, rfl, rfl, rfl, rfl, rfl, rfl, rfl, rfl, trivial⟩ ?_
        refine go_condD rfl ?_ ?_
        ·intro g7
         refine go_seq ?_
         refine go_region rfl ?_
         refine go_pure0 Tk rfl rfl rfl ?_
         refine go_nil ?_
         refine go_env [(4, _)] ⟨rfl, trivial⟩ ?_
         refine go_ret ⟨rfl, rfl⟩ _ _ (res1 (by rfl) (.tmp rfl)) ⟨by first | rw [few11_no (fun h => by have := h.1; omega)] | rw [few11_no (fun h => by have := h.2.1 l[k] (List.getElem_mem _); have h1 := this.1; omega)] | rw [few11_no (fun h => by have := h.2.1 l[k] (List.getElem_mem _); have h1 := this.2.1; omega)] | rw [few11_no (fun h => by have := (h.2.1 l[k] (List.getElem_mem _)).2.2 l[k].b[m] (List.getElem_mem _); omega)] | rw [few11_no (fun h => by have := h.2.2 F[j] (List.getElem_mem _); omega)] | rw [few11_yes ⟨⟨by omega, by omega, by omega⟩, hz, by rw [List.take_of_length_le (by omega)] at hx; exact hx⟩], rfl, rfl⟩ (by repeat constructor) (by repeat constructor)
        ·intro g7
         refine go_skip ?_
         refine go_blk ?_
         iterate 4 first | refine go_region rfl ?_ | refine go_pure0 Tk rfl rfl rfl ?_
         refine go_nil ?_
         refine go_i64 6 rfl (by omega) (by omega) ?_
         refine go_back (m + 1) ⟨rfl, rfl, rfl, rfl, rfl, rfl, rfl, rfl, rfl, rfl, rfl, rfl, trivial⟩ (by repeat constructor) (by repeat constructor) (⟨by omega, mem_take_next (by omega) hy (by omega)⟩) (by omega)
       ·intro hq5
        refine go_exit rfl ?_
        refine go_blk ?_
        iterate 4 first | refine go_region rfl ?_ | refine go_pure0 Tk rfl rfl rfl ?_
        refine go_nil ?_
        refine go_i64 5 rfl (by omega) (by omega) ?_
        refine go_back (k + 1) ⟨rfl, rfl, rfl, trivial⟩ (by repeat constructor) (by repeat constructor) (⟨by omega, mem_take_next (by omega) hz ⟨by omega, by omega, by rw [List.take_of_length_le (by omega)] at hy; exact hy⟩⟩) (by omega)
    ·intro hq4
     iterate 3 first | refine go_exit rfl ?_ | refine go_seq ?_
     rw [List.take_of_length_le (by omega)] at hz
     refine go_region rfl ?_
     refine go_pure0 Tk rfl rfl rfl ?_
     refine go_nil ?_
     refine go_env [(1, _), (7, _)] ⟨rfl, rfl, trivial⟩ ?_
     refine go_block ?_
     refine go_loop' (X := Nat) (fun j => [(7, .int .i64 (j : Int))]) [(1, _)] (fun _ => []) (fun j => j ≤ F.length ∧ ∀ x ∈ F.take j, x.a.length ≤ 30) (fun j => F.length - j) (0) ⟨rfl, rfl, trivial⟩ (by repeat constructor) ⟨by omega, by simp⟩ ?_
     intro j ⟨hj, hx⟩
     iterate 7 first | refine go_seq ?_ | refine go_region rfl ?_ | refine go_pure0 Tk rfl rfl rfl ?_
     refine go_nil ?_
     refine go_env [(1, _), (7, _), (74, _)] ⟨rfl, rfl, rfl, trivial⟩ ?_
     refine go_condD rfl ?_ ?_
     ·intro hq6
      iterate 4 first | refine go_skip ?_ | refine go_seq ?_ | refine go_block ?_
      refine go_elem_fa (xs := F) (by repeat constructor) (j) (List.getElem?_eq_getElem (by omega)) (fun b3 o3 A3 c3 hA => ?_); cases hA
      iterate 3 first | refine go_region rfl ?_ | refine go_pure0 Tk rfl rfl rfl ?_
      refine go_val0 rfl (idx_val Tk rfl rfl rfl rfl rfl (by omega)) rfl ?_
      iterate 4 first | refine go_pure0 Tk rfl rfl rfl ?_ | refine go_val0 rfl (ldv Tk rfl rfl rfl) rfl ?_
      refine go_nil ?_
      refine go_env [(1, _), (7, _), (83, _)] ⟨rfl, rfl, rfl, trivial⟩ ?_
      refine go_condD rfl ?_ ?_
      ·intro g8
       refine go_seq ?_
       refine go_region rfl ?_
       refine go_pure0 Tk rfl rfl rfl ?_
       refine go_nil ?_
       refine go_env [(4, _)] ⟨rfl, trivial⟩ ?_
       refine go_ret ⟨rfl, rfl⟩ _ _ (res1 (by rfl) (.tmp rfl)) ⟨by first | rw [few11_no (fun h => by have := h.1; omega)] | rw [few11_no (fun h => by have := h.2.1 l[k] (List.getElem_mem _); have h1 := this.1; omega)] | rw [few11_no (fun h => by have := h.2.1 l[k] (List.getElem_mem _); have h1 := this.2.1; omega)] | rw [few11_no (fun h => by have := (h.2.1 l[k] (List.getElem_mem _)).2.2 l[k].b[m] (List.getElem_mem _); omega)] | rw [few11_no (fun h => by have := h.2.2 F[j] (List.getElem_mem _); omega)] | rw [few11_yes ⟨⟨by omega, by omega, by omega⟩, hz, by rw [List.take_of_length_le (by omega)] at hx; exact hx⟩], rfl, rfl⟩ (by repeat constructor) (by repeat constructor)
      ·intro g8
       refine go_skip ?_
       refine go_blk ?_
       iterate 4 first | refine go_region rfl ?_ | refine go_pure0 Tk rfl rfl rfl ?_
       refine go_nil ?_
       refine go_i64 7 rfl (by omega) (by omega) ?_
       refine go_back (j + 1) ⟨rfl, rfl, trivial⟩ (by repeat constructor) (by repeat constructor) (⟨by omega, mem_take_next (by omega) hx (by omega)⟩) (by omega)
     ·intro hq6
      refine go_exit rfl ?_
      refine go_seq ?_
      refine go_region rfl ?_
      refine go_pure0 Tk rfl rfl rfl ?_
      refine go_nil ?_
      refine go_env [(4, _)] ⟨rfl, trivial⟩ ?_
      refine go_ret ⟨rfl, rfl⟩ _ _ (res1 (by rfl) (.tmp rfl)) ⟨by first | rw [few11_no (fun h => by have := h.1; omega)] | rw [few11_no (fun h => by have := h.2.1 l[k] (List.getElem_mem _); have h1 := this.1; omega)] | rw [few11_no (fun h => by have := h.2.1 l[k] (List.getElem_mem _); have h1 := this.2.1; omega)] | rw [few11_no (fun h => by have := (h.2.1 l[k] (List.getElem_mem _)).2.2 l[k].b[m] (List.getElem_mem _); omega)] | rw [few11_no (fun h => by have := h.2.2 F[j] (List.getElem_mem _); omega)] | rw [few11_yes ⟨⟨by omega, by omega, by omega⟩, hz, by rw [List.take_of_length_le (by omega)] at hx; exact hx⟩], rfl, rfl⟩ (by repeat constructor) (by repeat constructor)

set_option maxHeartbeats 2000000 in
set_option maxRecDepth 20000 in
theorem law13Small (c : Cl) (CA : Option Addr) (cc : Nat) (CB : Option Addr) (cd : Nat) (n : Nat) :
    Spec Try.prog 24 #[.agg #[.int .u32 c.h.p, .slice CA c.h.a.length cc, .slice CB c.b.length cd], .int .i64 (n : Int)] [sl tTm CA cc c.h.a, sl tLi CB cd c.b] [] (fun v Ps' Os' => v = .bool (smallC c n) ∧ Ps' = [] ∧ Os' = []) := by
 refine spec_of (fn := Try.f24) (args := [.agg #[.int .u32 c.h.p, .slice CA c.h.a.length cc, .slice CB c.b.length cd], .int .i64 (n : Int)]) 43 Try.func24 rfl (by kernel_rfl) Try.ntmps24 (Nat.le_of_ble_eq_true rfl) (fun w0 hp0 hf0 => ?_)
 refine go_seq ?_
 refine go_region rfl ?_
 refine go_box Tk rfl rfl rfl rfl (by rfl) rfl rfl (fun h => nomatch h) ?_
 intro bC
 refine go_pure0 Tk rfl rfl rfl ?_
 refine go_nil ?_
 refine go_freeze_pt (b := bC) (by repeat constructor) ?_
 refine go_env [(1, _), (2, _)] ⟨rfl, rfl, trivial⟩ ?_
 refine go_seq ?_
 refine go_len (xs := c.b) (by repeat constructor) (fun l0 m0 => ?_)
 refine go_region rfl ?_
 refine go_pure0 Tk rfl rfl rfl ?_
 refine go_nil ?_
 refine go_env [(1, _), (2, _), (5, _)] ⟨rfl, rfl, rfl, trivial⟩ ?_
 refine go_seq ?_
 refine go_seq ?_
 refine go_region rfl ?_
 refine go_pure0 Tk rfl rfl rfl ?_
 refine go_nil ?_
 refine go_env [(1, _), (2, _), (5, _), (6, _)] ⟨rfl, rfl, rfl, rfl, trivial⟩ ?_
 refine go_block ?_
 refine go_loop' (X := Nat) (fun k => [(5, .int .i64 (pos (c.b.take k) : Int)), (6, .int .i64 (k : Int))]) [(1, _), (2, _)] (fun _ => []) (fun k => k ≤ c.b.length) (fun k => c.b.length - k) (0) ⟨rfl, rfl, rfl, rfl, trivial⟩ (by repeat constructor) (by omega) ?_
 intro k hk
 have hpk := pos_le c.b k
 iterate 8 first | refine go_seq ?_ | refine go_region rfl ?_ | refine go_pure0 Tk rfl rfl rfl ?_ | refine go_val0 rfl (ldv Tk rfl rfl rfl) rfl ?_
 refine go_nil ?_
 refine go_env [(1, _), (2, _), (5, _), (6, _), (11, _)] ⟨rfl, rfl, rfl, rfl, rfl, trivial⟩ ?_
 refine go_condD rfl ?_ ?_
 ·intro hq1
  iterate 4 first | refine go_skip ?_ | refine go_seq ?_ | refine go_block ?_
  refine go_elem_li (xs := c.b) (by repeat constructor) (k) (List.getElem?_eq_getElem (by omega)) (fun b0 o0 A0 c0 hA => ?_); cases hA
  iterate 4 first | refine go_region rfl ?_ | refine go_pure0 Tk rfl rfl rfl ?_ | refine go_val0 rfl (ldv Tk rfl rfl rfl) rfl ?_
  refine go_val0 rfl (idx_val Tk rfl rfl rfl rfl rfl (by omega)) rfl ?_
  iterate 3 first | refine go_pure0 Tk rfl rfl rfl ?_ | refine go_val0 rfl (ldv Tk rfl rfl rfl) rfl ?_
  refine go_nil ?_
  refine go_env [(1, _), (2, _), (5, _), (6, _), (20, _)] ⟨rfl, rfl, rfl, rfl, rfl, trivial⟩ ?_
  refine go_cond rfl ?_ ?_
  ·intro g1
   (try simp only [decide_eq_true_eq, decide_eq_false_iff_not, Bool.not_eq_true', Bool.not_eq_false', Bool.not_eq_eq_eq_not, Bool.not_true, Bool.not_false, Int.not_lt, Int.not_le, beq_iff_eq, beq_eq_false_iff_ne, ne_eq] at g1)
   iterate 4 first | refine go_region rfl ?_ | refine go_pure0 Tk rfl rfl rfl ?_
   refine go_nil ?_
   refine go_env [(1, _), (2, _), (5, _), (6, _)] ⟨rfl, rfl, rfl, rfl, trivial⟩ ?_
   refine go_blk ?_
   iterate 4 first | refine go_region rfl ?_ | refine go_pure0 Tk rfl rfl rfl ?_
   refine go_nil ?_
   refine go_i64 6 rfl (by omega) (by omega) ?_
   refine go_re 5 (.int .i64 (pos (c.b.take (k + 1)) : Int)) (by show some (Value.int _ _) = _; rw [pos_yes (by omega) g1]; rw [wrap_i64 (by omega) (by omega)]; rfl) ?_
   refine go_back (k + 1) ⟨rfl, rfl, rfl, rfl, trivial⟩ (by repeat constructor) (by repeat constructor) (by omega) (by omega)
  ·intro g1
   (try simp only [decide_eq_true_eq, decide_eq_false_iff_not, Bool.not_eq_true', Bool.not_eq_false', Bool.not_eq_eq_eq_not, Bool.not_true, Bool.not_false, Int.not_lt, Int.not_le, beq_iff_eq, beq_eq_false_iff_ne, ne_eq] at g1)
   refine go_skip ?_
   refine go_blk ?_
   iterate 4 first | refine go_region rfl ?_ | refine go_pure0 Tk rfl rfl rfl ?_
   refine go_nil ?_
   refine go_i64 6 rfl (by omega) (by omega) ?_
   refine go_re 5 (.int .i64 (pos (c.b.take (k + 1)) : Int)) (by show some (Value.int _ _) = _; rw [pos_no (by omega) g1]; skip) ?_
   refine go_back (k + 1) ⟨rfl, rfl, rfl, rfl, trivial⟩ (by repeat constructor) (by repeat constructor) (by omega) (by omega)
 ·intro hq1
  refine go_exit rfl ?_
  refine go_seq ?_
  rw [List.take_of_length_le (show c.b.length ≤ k by omega)]
  have hpb := pos_le c.b c.b.length
  rw [List.take_of_length_le (Nat.le_refl _)] at hpb
  iterate 6 first | refine go_region rfl ?_ | refine go_pure0 Tk rfl rfl rfl ?_ | refine go_val0 rfl (ldv Tk rfl rfl rfl) rfl ?_
  refine go_known 27 rfl ?_ ?_
  ·intro g2
   (try simp only [decide_eq_true_eq, decide_eq_false_iff_not, Bool.not_eq_true', Bool.not_eq_false', Bool.not_eq_eq_eq_not, Bool.not_true, Bool.not_false, Int.not_lt, Int.not_le, beq_iff_eq, beq_eq_false_iff_ne, ne_eq] at g2)
   iterate 3 refine go_pure0 Tk rfl rfl rfl ?_
   refine go_known 30 rfl ?_ ?_
   ·intro g3
    (try simp only [decide_eq_true_eq, decide_eq_false_iff_not, Bool.not_eq_true', Bool.not_eq_false', Bool.not_eq_eq_eq_not, Bool.not_true, Bool.not_false, Int.not_lt, Int.not_le, beq_iff_eq, beq_eq_false_iff_ne, ne_eq] at g3)
    iterate 4 refine go_pure0 Tk rfl rfl rfl ?_
    refine go_known 34 rfl ?_ ?_
    ·intro g4
     (try simp only [decide_eq_true_eq, decide_eq_false_iff_not, Bool.not_eq_true', Bool.not_eq_false', Bool.not_eq_eq_eq_not, Bool.not_true, Bool.not_false, Int.not_lt, Int.not_le, beq_iff_eq, beq_eq_false_iff_ne, ne_eq] at g4)
     iterate 9 first | refine go_skip0 rfl rfl ?_ | refine go_pure0 Tk rfl rfl rfl ?_
     refine go_nil ?_
     refine go_env [(4, _)] ⟨rfl, trivial⟩ ?_
     refine go_ret ⟨rfl, rfl⟩ _ _ (res1 (by rfl) (.tmp rfl)) ⟨by show Value.bool _ = Value.bool _; congr 1; unfold smallC; first | (rw [decide_eq_decide]; constructor <;> intro _ <;> omega) | (symm; rw [decide_eq_true_eq]; omega) | (symm; rw [decide_eq_false_iff_not]; omega), rfl, rfl⟩ (by repeat constructor) (by repeat constructor)
    ·intro g4
     (try simp only [decide_eq_true_eq, decide_eq_false_iff_not, Bool.not_eq_true', Bool.not_eq_false', Bool.not_eq_eq_eq_not, Bool.not_true, Bool.not_false, Int.not_lt, Int.not_le, beq_iff_eq, beq_eq_false_iff_ne, ne_eq] at g4)
     iterate 3 refine go_pure0 Tk rfl rfl rfl ?_
     refine go_known 37 rfl ?_ ?_
     ·intro g5
      (try simp only [decide_eq_true_eq, decide_eq_false_iff_not, Bool.not_eq_true', Bool.not_eq_false', Bool.not_eq_eq_eq_not, Bool.not_true, Bool.not_false, Int.not_lt, Int.not_le, beq_iff_eq, beq_eq_false_iff_ne, ne_eq] at g5)
      iterate 6 refine go_pure0 Tk rfl rfl rfl ?_
      refine go_nil ?_
      refine go_env [(4, _)] ⟨rfl, trivial⟩ ?_
      refine go_ret ⟨rfl, rfl⟩ _ _ (res1 (by rfl) (.tmp rfl)) ⟨by show Value.bool _ = Value.bool _; congr 1; unfold smallC; first | (rw [decide_eq_decide]; constructor <;> intro _ <;> omega) | (symm; rw [decide_eq_true_eq]; omega) | (symm; rw [decide_eq_false_iff_not]; omega), rfl, rfl⟩ (by repeat constructor) (by repeat constructor)
     ·intro g5
      (try simp only [decide_eq_true_eq, decide_eq_false_iff_not, Bool.not_eq_true', Bool.not_eq_false', Bool.not_eq_eq_eq_not, Bool.not_true, Bool.not_false, Int.not_lt, Int.not_le, beq_iff_eq, beq_eq_false_iff_ne, ne_eq] at g5)
      iterate 6 first | refine go_skip0 rfl rfl ?_ | refine go_pure0 Tk rfl rfl rfl ?_
      refine go_nil ?_
      refine go_env [(4, _)] ⟨rfl, trivial⟩ ?_
      refine go_ret ⟨rfl, rfl⟩ _ _ (res1 (by rfl) (.tmp rfl)) ⟨by show Value.bool _ = Value.bool _; congr 1; unfold smallC; first | (rw [decide_eq_decide]; constructor <;> intro _ <;> omega) | (symm; rw [decide_eq_true_eq]; omega) | (symm; rw [decide_eq_false_iff_not]; omega), rfl, rfl⟩ (by repeat constructor) (by repeat constructor)
   ·intro g3
    (try simp only [decide_eq_true_eq, decide_eq_false_iff_not, Bool.not_eq_true', Bool.not_eq_false', Bool.not_eq_eq_eq_not, Bool.not_true, Bool.not_false, Int.not_lt, Int.not_le, beq_iff_eq, beq_eq_false_iff_ne, ne_eq] at g3)
    iterate 7 first | refine go_skip0 rfl rfl ?_ | refine go_pure0 Tk rfl rfl rfl ?_
    refine go_known 37 rfl ?_ ?_
    ·intro g5
     (try simp only [decide_eq_true_eq, decide_eq_false_iff_not, Bool.not_eq_true', Bool.not_eq_false', Bool.not_eq_eq_eq_not, Bool.not_true, Bool.not_false, Int.not_lt, Int.not_le, beq_iff_eq, beq_eq_false_iff_ne, ne_eq] at g5)
     iterate 6 refine go_pure0 Tk rfl rfl rfl ?_
     refine go_nil ?_
     refine go_env [(4, _)] ⟨rfl, trivial⟩ ?_
     refine go_ret ⟨rfl, rfl⟩ _ _ (res1 (by rfl) (.tmp rfl)) ⟨by show Value.bool _ = Value.bool _; congr 1; unfold smallC; first | (rw [decide_eq_decide]; constructor <;> intro _ <;> omega) | (symm; rw [decide_eq_true_eq]; omega) | (symm; rw [decide_eq_false_iff_not]; omega), rfl, rfl⟩ (by repeat constructor) (by repeat constructor)
    ·intro g5
     (try simp only [decide_eq_true_eq, decide_eq_false_iff_not, Bool.not_eq_true', Bool.not_eq_false', Bool.not_eq_eq_eq_not, Bool.not_true, Bool.not_false, Int.not_lt, Int.not_le, beq_iff_eq, beq_eq_false_iff_ne, ne_eq] at g5)
     iterate 6 first | refine go_skip0 rfl rfl ?_ | refine go_pure0 Tk rfl rfl rfl ?_
     refine go_nil ?_
     refine go_env [(4, _)] ⟨rfl, trivial⟩ ?_
     refine go_ret ⟨rfl, rfl⟩ _ _ (res1 (by rfl) (.tmp rfl)) ⟨by show Value.bool _ = Value.bool _; congr 1; unfold smallC; first | (rw [decide_eq_decide]; constructor <;> intro _ <;> omega) | (symm; rw [decide_eq_true_eq]; omega) | (symm; rw [decide_eq_false_iff_not]; omega), rfl, rfl⟩ (by repeat constructor) (by repeat constructor)
  ·intro g2
   (try simp only [decide_eq_true_eq, decide_eq_false_iff_not, Bool.not_eq_true', Bool.not_eq_false', Bool.not_eq_eq_eq_not, Bool.not_true, Bool.not_false, Int.not_lt, Int.not_le, beq_iff_eq, beq_eq_false_iff_ne, ne_eq] at g2)
   iterate 16 first | refine go_skip0 rfl rfl ?_ | refine go_pure0 Tk rfl rfl rfl ?_
   refine go_nil ?_
   refine go_env [(4, _)] ⟨rfl, trivial⟩ ?_
   refine go_ret ⟨rfl, rfl⟩ _ _ (res1 (by rfl) (.tmp rfl)) ⟨by show Value.bool _ = Value.bool _; congr 1; unfold smallC; first | (rw [decide_eq_decide]; constructor <;> intro _ <;> omega) | (symm; rw [decide_eq_true_eq]; omega) | (symm; rw [decide_eq_false_iff_not]; omega), rfl, rfl⟩ (by repeat constructor) (by repeat constructor)

end Go.Proofs.Ytkhddfknpegpmaa.SL

/- Contracts of functions of the program (Law13b): what each call comes to, for the laws' proofs. -/
set_option linter.unusedVariables false
set_option linter.unusedSimpArgs false
namespace Go.Proofs.Ytkhddfknpegpmaa.SL
open Go 

theorem ok_am (p : Int) (l : List Tm) (h : (decide (0 ≤ p ∧ p < 4294967296) && l.all fun t => decide (0 ≤ t.n ∧ t.n < 4294967296)) = true) : (⟨p, l⟩ : Am).ok := by
  simp only [Bool.and_eq_true, decide_eq_true_eq, List.all_eq_true] at h
  exact ⟨h.1, fun t ht => h.2 t ht⟩
theorem ok_fa (p : Int) (l : List Int) (h : (decide (0 ≤ p ∧ p < 4294967296) && l.all fun t => decide (0 ≤ t ∧ t < 4294967296)) = true) : (⟨p, l⟩ : Fa).ok := by
  simp only [Bool.and_eq_true, decide_eq_true_eq, List.all_eq_true] at h
  exact ⟨h.1, fun t ht => h.2 t ht⟩
end Go.Proofs.Ytkhddfknpegpmaa.SL

/- Laws of the least closed facts. -/
set_option linter.unusedVariables false
set_option linter.unusedSimpArgs false
namespace Go.Proofs.Ytkhddfknpegpmaa.SL
theorem nextS_stop {l : List Cl} {N S : List Fa} (h : nx l N S = []) : nextS l N S = S := by unfold nextS; rw [h]; rfl
theorem Sq_stop {l : List Cl} {N : List Fa} {k : Nat} (h : nx l N (Sq l N k) = []) : ∀ m, k ≤ m → Sq l N m = Sq l N k := fun m hm => by
  induction hm with
  | refl => rfl
  | step _ ih => show nextS l N (Sq l N _) = _; rw [ih]; exact nextS_stop h
theorem Sq_one {l : List Cl} {N : List Fa} {j k : Nat} (h : nx l N (Sq l N j) = []) (g : nx l N (Sq l N k) = []) : Sq l N j = Sq l N k := by
  rcases Nat.le_total j k with q | q
  · exact (Sq_stop h k q).symm
  · exact Sq_stop g j q
theorem Sq_top {l : List Cl} {N : List Fa} {k : Nat} (h : nx l N (Sq l N k) = []) (m : Nat) : (Sq l N m).length ≤ (Sq l N k).length := by
  rcases Nat.le_total m k with q | q
  · exact Sq_lens l N q
  · rw [Sq_stop h m q]; exact Nat.le_refl _
theorem Sq_in {l : List Cl} {N : List Fa} {k : Nat} (h : nx l N (Sq l N k) = []) (m : Nat) : ∀ x ∈ Sq l N m, x ∈ Sq l N k := by
  rcases Nat.le_total m k with q | q
  · exact Sq_mono l N q
  · rw [Sq_stop h m q]; exact fun x hx => hx
/-- What the document's closing answers. -/
inductive RefL (l : List Cl) (N : List Fa) (most : Int) : List Fa → Int → Prop where
  | arg : (most < 0 ∨ fixR l = false) → RefL l N most [] 1
  | many (k : Nat) : 0 ≤ most → fixR l = true → most < ((Sq l N k).length : Int) → RefL l N most [] 6
  | ok (k : Nat) : 0 ≤ most → fixR l = true → ((Sq l N k).length : Int) ≤ most → nx l N (Sq l N k) = [] → RefL l N most (Sq l N k) 0
/-- What is answered is there just if nothing is wrong. -/
theorem least_cases {l : List Cl} {N : List Fa} {most : Int} {r : Option (List Fa)} {n : Nat} {e : Int} (h : LeastR l N most r n e) :
    (e = 0 ∧ ∃ k, r = some (Sq l N k) ∧ n = k + 1 ∧ 0 ≤ most ∧ fixR l = true ∧ ((Sq l N k).length : Int) ≤ most ∧ (∀ j < k, ¬ nx l N (Sq l N j) = []) ∧ nx l N (Sq l N k) = []) ∨
    (¬ e = 0 ∧ r = none ∧ n = 0 ∧ ((e = 1 ∧ (most < 0 ∨ fixR l = false)) ∨ (e = 6 ∧ 0 ≤ most ∧ fixR l = true ∧ ∃ k, most < ((Sq l N k).length : Int)))) := by
  cases h with
  | arg h1 => exact .inr ⟨by decide, rfl, rfl, .inl ⟨rfl, h1⟩⟩
  | many k h1 h2 h3 => exact .inr ⟨by decide, rfl, rfl, .inr ⟨rfl, h1, h2, k, h3⟩⟩
  | ok k h1 h2 h3 h4 h5 => exact .inl ⟨rfl, k, rfl, rfl, h1, h2, h3, h4, h5⟩
/-! ### nothing is Not -/
def noNot (l : List Cl) : Prop := ∀ c ∈ l, ∀ x ∈ c.b, x.no = false
theorem Hd.free {c : Cl} (h : ∀ x ∈ c.b, x.no = false) {F R N : Fa → Prop} {some : Bool} {x : Fa} (g : Hd c F R N some x) (N' : Fa → Prop) : Hd c F R N' some x := by
  obtain ⟨s, h1, h2, h3, h4⟩ := g
  exact ⟨s, h1, fun l hl e => (by rw [h l hl] at e; cases e), h3, h4⟩
theorem allH_free {l : List Cl} (ho : ∀ c ∈ l, c.ok) (hn : noNot l) {N N' S S' : List Fa} (hS : ∀ x ∈ S, x ∈ S') {x : Fa} (h : x ∈ allH l N S) : x ∈ allH l N' S' := by
  obtain ⟨c, hc, h⟩ := mem_allH.1 h
  rw [mem_headsC' (ho c hc)] at h
  exact mem_allH.2 ⟨c, hc, (mem_headsC' (ho c hc)).2 ⟨h.1, (h.2.free (hn c hc) (· ∈ N')).mono hS (fun _ q => q) (fun _ q => q)⟩⟩
theorem Sq_more {l : List Cl} (ho : ∀ c ∈ l, c.ok) (hn : noNot l) {N N' : List Fa} (h : ∀ x ∈ N, x ∈ N') : ∀ k, ∀ x ∈ Sq l N k, x ∈ Sq l N' k
  | 0 => h
  | k + 1 => fun x hx => by
    rcases mem_nextS.1 hx with hx | hx
    · exact mem_nextS.2 (.inl (Sq_more ho hn h k x hx))
    · exact mem_nextS.2 (.inr (allH_free ho hn (Sq_more ho hn h k) hx))
theorem nx_nil {l : List Cl} {N S : List Fa} : nx l N S = [] ↔ ∀ x ∈ allH l N S, x ∈ S := by
  constructor
  · intro h x hx
    refine Decidable.byContradiction fun q => ?_
    have : x ∈ nx l N S := mem_nws.2 ⟨hx, q⟩
    rw [h] at this; cases this
  · intro h
    refine List.eq_nil_iff_forall_not_mem.2 fun x hx => ?_
    exact (mem_nws.1 hx).2 (h x (mem_nws.1 hx).1)
/-- What is closed has all that comes of what it has. -/
theorem closed_in {l : List Cl} (ho : ∀ c ∈ l, c.ok) (hn : noNot l) {N N' S : List Fa} (h : nx l N S = []) (hs : ∀ x ∈ N', x ∈ S) : ∀ k, ∀ x ∈ Sq l N' k, x ∈ S
  | 0 => hs
  | k + 1 => fun x hx => by
    rcases mem_nextS.1 hx with hx | hx
    · exact closed_in ho hn h hs k x hx
    · exact nx_nil.1 h x (allH_free ho hn (closed_in ho hn h hs k) hx)
theorem closed_self {l : List Cl} (ho : ∀ c ∈ l, c.ok) (hn : noNot l) {N S : List Fa} (h : nx l N S = []) : nx l S S = [] := nx_nil.2 fun x hx => nx_nil.1 h x (allH_free ho hn (fun _ q => q) hx)
/-- The least closed facts of what is closed: it, in one round. -/
theorem least_self {l : List Cl} (ho : ∀ c ∈ l, c.ok) (hn : noNot l) {N S : List Fa} {most : Int} (h : nx l N S = []) (hf : fixR l = true) (hm : (S.length : Int) ≤ most) {r : Option (List Fa)} {n : Nat} {e : Int} (g : LeastR l S most r n e) : e = 0 ∧ r = some S ∧ n = 1 := by
  have h0 := closed_self ho hn h
  cases g with
  | arg g1 => exact absurd g1 (by rw [hf]; simp; omega)
  | many k g1 g2 g3 => have := Sq_top (l := l) (N := S) (k := 0) h0 k; have : (Sq l S 0).length = S.length := rfl; omega
  | ok k g1 g2 g3 g4 g5 =>
    have hk : k = 0 := Decidable.byContradiction fun q => g4 0 (by omega) h0
    subst hk
    exact ⟨rfl, rfl, rfl⟩
end Go.Proofs.Ytkhddfknpegpmaa.SL

