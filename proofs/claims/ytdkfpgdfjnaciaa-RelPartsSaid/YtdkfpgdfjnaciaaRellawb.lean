/- Contracts of functions of the program (Rellawb): what each call comes to, for the laws' proofs. -/
import Derived.Test.YtdkfpgdfjnaciaaRelr
import Derived.Test.YtdkfpgdfjnaciaaD8
set_option linter.unusedVariables false
set_option linter.unusedSimpArgs false
namespace Go.Proofs.Ytdkfpgdfjnaciaa.SL
open Go 

theorem relLessY (p0 : Option Addr) (l : List Fa) (b : Nat) (m : List Fa) (hr : rises m) (hm : m.length ≤ 1000000) (hn : l.length ≤ 1000000) (hb : ∀ x ∈ l, x.a.length ≤ 100000) : Spec Try.prog 51 #[.pointer p0, .pointer (some ⟨b, 0, none⟩)] [relN p0 l] [relO b m]
    (fun v Ps' Os' => ∃ z, v = .pointer (some ⟨z, 0, none⟩) ∧ Ps' = [] ∧ Os' = [relO b m, relD z (less l m)]) :=
  (((relLessN p0 l (some ⟨b, 0, none⟩) m hr hm hn hb).less (Ps' := [relN (some ⟨b, 0, none⟩) m, relN p0 l]) (by intro q hq; simp only [List.mem_cons, List.not_mem_nil, or_false] at hq ⊢; exact hq.symm)).lend (relO b m) lend_relN
    (fun v P' O' ⟨z, h⟩ => ⟨h.2.1, by rw [h.2.2]; intro B hB; rw [List.mem_singleton.1 hB]; exact free_relD⟩)).imp fun v P' O' ⟨O2, ⟨z, h1, _, h3⟩, h4, h5⟩ => ⟨z, h1, h4, by rw [h5, h3]⟩

set_option maxHeartbeats 2000000 in
set_option maxRecDepth 20000 in
theorem lawRelParts (a : List Fa) (AA : Option Addr) (ac : Nat) (ga : ∀ x ∈ a, x.ok) (b : List Fa) (BA : Option Addr) (bc : Nat) (gb : ∀ x ∈ b, x.ok) (q : Fa) (QA : Option Addr) (qc : Nat) (gq : q.ok) :
    Spec Try.prog 11 #[.slice AA a.length ac, .slice BA b.length bc, .agg #[.int .u32 q.p, .slice QA q.a.length qc]] [sl tFa AA ac a, sl tFa BA bc b, sl tU QA qc q.a] [] (fun v Ps' Os' => v = .bool true ∧ Ps' = [] ∧ Os' = []) := by
  refine spec_of (fn := Try.f11) (args := [.slice AA a.length ac, .slice BA b.length bc, .agg #[.int .u32 q.p, .slice QA q.a.length qc]]) 107 Try.func11 rfl (by kernel_rfl) Try.ntmps11 (Nat.le_of_ble_eq_true rfl) (fun w0 hp0 hf0 => ?_)
  refine go_seq ?_
  refine go_region rfl ?_
  refine go_box Tk rfl rfl rfl rfl (by rfl) rfl rfl (fun h => nomatch h) ?_
  intro b1
  refine go_pure0 Tk rfl rfl rfl ?_
  refine go_nil ?_
  refine go_env [(0, _), (1, _), (5, _)] ⟨rfl, rfl, rfl, trivial⟩ ?_
  refine go_seq ?_
  refine go_seq ?_
  refine go_len (xs := q.a) (by repeat constructor) (fun lq mq => ?_)
  refine go_region rfl ?_
  refine go_pure0 Tk rfl rfl rfl ?_
  refine go_call (lawFew AA ac a) rfl rfl (by rfl) rfl (by repeat constructor) (by repeat constructor) (fun h => nomatch h) ?_
  rintro _ _ _ ⟨rfl, rfl, rfl⟩
  refine go_pure0 Tk rfl rfl rfl ?_
  refine go_pure0 Tk rfl rfl rfl ?_
  refine go_known 17 rfl ?_ ?_
  · intro f1
    (try simp only [decide_eq_true_eq, decide_eq_false_iff_not, Bool.not_eq_true', Bool.not_eq_false', Bool.not_eq_eq_eq_not, Bool.not_true, Bool.not_false, Int.not_lt, Int.not_le, beq_iff_eq, beq_eq_false_iff_ne, ne_eq] at f1)
    refine go_skip0 rfl rfl ?_
    refine go_skip0 rfl rfl ?_
    refine go_skip0 rfl rfl ?_
    refine go_pure0 Tk rfl rfl rfl ?_
    refine go_pure0 Tk rfl rfl rfl ?_
    refine go_skip0 rfl rfl ?_
    refine go_skip0 rfl rfl ?_
    refine go_skip0 rfl rfl ?_
    refine go_skip0 rfl rfl ?_
    refine go_pure0 Tk rfl rfl rfl ?_
    refine go_nil ?_
    refine go_env [(0, _), (1, _), (5, _), (27, _)] ⟨rfl, rfl, rfl, rfl, trivial⟩ ?_
    refine go_cond_t rfl ?_
    refine go_seq ?_
    refine go_region rfl ?_
    refine go_call (lawWorks10) rfl rfl (by rfl) rfl (by repeat constructor) (by repeat constructor) (fun h => nomatch h) ?_
    rintro _ _ _ ⟨rfl, rfl, rfl⟩
    refine go_pure0 Tk rfl rfl rfl ?_
    refine go_nil ?_
    refine go_env [(6, _)] ⟨rfl, trivial⟩ ?_
    refine go_ret ⟨rfl, rfl⟩ _ _ (fun a w hp ho hf hs => res1 (by rfl) (.tmp rfl) a w hp ho hf hs) ⟨rfl, rfl, rfl⟩ (by repeat constructor) (by repeat constructor)
  · intro f1
    (try simp only [decide_eq_true_eq, decide_eq_false_iff_not, Bool.not_eq_true', Bool.not_eq_false', Bool.not_eq_eq_eq_not, Bool.not_true, Bool.not_false, Int.not_lt, Int.not_le, beq_iff_eq, beq_eq_false_iff_ne, ne_eq] at f1)
    refine go_pure0 Tk rfl rfl rfl ?_
    refine go_call (lawFew BA bc b) rfl rfl (by rfl) rfl (by repeat constructor) (by repeat constructor) (fun h => nomatch h) ?_
    rintro _ _ _ ⟨rfl, rfl, rfl⟩
    refine go_pure0 Tk rfl rfl rfl ?_
    refine go_pure0 Tk rfl rfl rfl ?_
    refine go_pure0 Tk rfl rfl rfl ?_
    refine go_known 22 rfl ?_ ?_
    · intro f2
      (try simp only [decide_eq_true_eq, decide_eq_false_iff_not, Bool.not_eq_true', Bool.not_eq_false', Bool.not_eq_eq_eq_not, Bool.not_true, Bool.not_false, Int.not_lt, Int.not_le, beq_iff_eq, beq_eq_false_iff_ne, ne_eq] at f2)
      refine go_skip0 rfl rfl ?_
      refine go_skip0 rfl rfl ?_
      refine go_skip0 rfl rfl ?_
      refine go_skip0 rfl rfl ?_
      refine go_pure0 Tk rfl rfl rfl ?_
      refine go_nil ?_
      refine go_env [(0, _), (1, _), (5, _), (27, _)] ⟨rfl, rfl, rfl, rfl, trivial⟩ ?_
      refine go_cond_t rfl ?_
      refine go_seq ?_
      refine go_region rfl ?_
      refine go_call (lawWorks10) rfl rfl (by rfl) rfl (by repeat constructor) (by repeat constructor) (fun h => nomatch h) ?_
      rintro _ _ _ ⟨rfl, rfl, rfl⟩
      refine go_pure0 Tk rfl rfl rfl ?_
      refine go_nil ?_
      refine go_env [(6, _)] ⟨rfl, trivial⟩ ?_
      refine go_ret ⟨rfl, rfl⟩ _ _ (fun a w hp ho hf hs => res1 (by rfl) (.tmp rfl) a w hp ho hf hs) ⟨rfl, rfl, rfl⟩ (by repeat constructor) (by repeat constructor)
    · intro f2
      (try simp only [decide_eq_true_eq, decide_eq_false_iff_not, Bool.not_eq_true', Bool.not_eq_false', Bool.not_eq_eq_eq_not, Bool.not_true, Bool.not_false, Int.not_lt, Int.not_le, beq_iff_eq, beq_eq_false_iff_ne, ne_eq] at f2)
      refine go_pure0 Tk rfl rfl rfl ?_
      refine go_val0 rfl (load_val Tk rfl rfl rfl (by first | exact at_pt (by repeat constructor) (by rfl) | exact at_cl 0 (by repeat constructor) (by rfl) | exact at_cl 1 (by repeat constructor) (by rfl) | exact at_cl 2 (by repeat constructor) (by rfl) | exact at_cl 3 (by repeat constructor) (by rfl) | exact at_cl 4 (by repeat constructor) (by rfl) | exact at_cl 5 (by repeat constructor) (by rfl) | exact at_cl 6 (by repeat constructor) (by rfl) | exact at_cl 7 (by repeat constructor) (by rfl)) (by rfl)) rfl ?_
      refine go_pure0 Tk rfl rfl rfl ?_
      refine go_pure0 Tk rfl rfl rfl ?_
      refine go_pure0 Tk rfl rfl rfl ?_
      refine go_nil ?_
      refine go_env [(0, _), (1, _), (5, _), (27, _)] ⟨rfl, rfl, rfl, rfl, trivial⟩ ?_
      refine go_cond rfl ?_ ?_
      · intro f3
        (try simp only [decide_eq_true_eq, decide_eq_false_iff_not, Bool.not_eq_true', Bool.not_eq_false', Bool.not_eq_eq_eq_not, Bool.not_true, Bool.not_false, Int.not_lt, Int.not_le, beq_iff_eq, beq_eq_false_iff_ne, ne_eq] at f3)
        refine go_seq ?_
        refine go_region rfl ?_
        refine go_call (lawWorks10) rfl rfl (by rfl) rfl (by repeat constructor) (by repeat constructor) (fun h => nomatch h) ?_
        rintro _ _ _ ⟨rfl, rfl, rfl⟩
        refine go_pure0 Tk rfl rfl rfl ?_
        refine go_nil ?_
        refine go_env [(6, _)] ⟨rfl, trivial⟩ ?_
        refine go_ret ⟨rfl, rfl⟩ _ _ (fun a w hp ho hf hs => res1 (by rfl) (.tmp rfl) a w hp ho hf hs) ⟨rfl, rfl, rfl⟩ (by repeat constructor) (by repeat constructor)
      · intro f3
        (try simp only [decide_eq_true_eq, decide_eq_false_iff_not, Bool.not_eq_true', Bool.not_eq_false', Bool.not_eq_eq_eq_not, Bool.not_true, Bool.not_false, Int.not_lt, Int.not_le, beq_iff_eq, beq_eq_false_iff_ne, ne_eq] at f3)
        refine go_skip ?_
        refine go_seq ?_
        have fa : fewF a = true := f1
        have fb : fewF b = true := f2
        obtain ⟨hna, hba⟩ := fewF_iff.1 fa
        have hNa : a.length ≤ 1000000 := by omega
        have hBa : ∀ x ∈ a, x.a.length ≤ 100000 := fun x hx => Nat.le_trans (hba x hx) (by omega)
        have Fa : Fine (fof a) := Fine.few fa
        obtain ⟨hnb, hbb⟩ := fewF_iff.1 fb
        have hNb : b.length ≤ 1000000 := by omega
        have hBb : ∀ x ∈ b, x.a.length ≤ 100000 := fun x hx => Nat.le_trans (hbb x hx) (by omega)
        have Fb : Fine (fof b) := Fine.few fb
        have FZ := Fa.less (fof b)
        have hla := fof_len a
        have hlb := fof_len b
        have hlz := less_len (fof a) (fof b)
        have hlp := fput_len (fof b) q
        have hlq := fput_len (less (fof a) (fof b)) q
        have hge := fput_ge (fof b) q
        refine go_region rfl ?_
        refine go_pure0 Tk rfl rfl rfl ?_
        refine go_call (relOf AA ac a hNa hBa) rfl rfl (by rfl) rfl (by repeat constructor) (by repeat constructor) (fun h => nomatch h) ?_
        rintro _ _ _ ⟨bx, rfl, rfl, rfl⟩
        refine go_freeze_rel (b := bx) (by repeat constructor) ?_
        refine go_ent (relN (some ⟨bx, 0, none⟩) (fof a)) (fun hh hps => relN_some (hps (relP bx (fof a)) (by repeat constructor))) ?_
        refine go_pure0 Tk rfl rfl rfl ?_
        refine go_nil ?_
        refine go_env [(1, _), (5, _), (7, _)] ⟨rfl, rfl, rfl, trivial⟩ ?_
        refine go_seq ?_
        refine go_region rfl ?_
        refine go_pure0 Tk rfl rfl rfl ?_
        refine go_call (relOf BA bc b hNb hBb) rfl rfl (by rfl) rfl (by repeat constructor) (by repeat constructor) (fun h => nomatch h) ?_
        rintro _ _ _ ⟨by_, rfl, rfl, rfl⟩
        refine go_pure0 Tk rfl rfl rfl ?_
        refine go_nil ?_
        refine go_env [(5, _), (7, _), (8, _)] ⟨rfl, rfl, rfl, trivial⟩ ?_
        refine go_seq ?_
        refine go_region rfl ?_
        refine go_pure0 Tk rfl rfl rfl ?_
        refine go_pure0 Tk rfl rfl rfl ?_
        refine go_call (relLessY (some ⟨bx, 0, none⟩) (fof a) by_ (fof b) Fb.r Fb.n Fa.n Fa.b) rfl rfl (by rfl) rfl (by repeat constructor) (by repeat constructor) (fun h => nomatch h) ?_
        rintro _ _ _ ⟨bz, rfl, rfl, rfl⟩
        refine go_relD (b := bz) (by repeat constructor) ?_
        refine go_pure0 Tk rfl rfl rfl ?_
        refine go_nil ?_
        refine go_env [(5, _), (7, _), (8, _), (9, _)] ⟨rfl, rfl, rfl, rfl, trivial⟩ ?_
        refine go_seq ?_
        refine go_region rfl ?_
        refine go_pure0 Tk rfl rfl rfl ?_
        refine go_call (relListN (some ⟨bx, 0, none⟩) (fof a) (Fa).n (Fa).b) rfl rfl (by rfl) rfl (by repeat constructor) (by repeat constructor) (fun h => nomatch h) ?_
        rintro _ _ _ ⟨A1, c1, rfl, rfl, rfl⟩
        refine go_freeze_dl (T := tFa) (A := A1) (by repeat constructor) ?_
        refine go_pure0 Tk rfl rfl rfl ?_
        refine go_nil ?_
        refine go_env [(5, _), (7, _), (8, _), (9, _), (10, _)] ⟨rfl, rfl, rfl, rfl, rfl, trivial⟩ ?_
        refine go_seq ?_
        refine go_seq ?_
        refine go_len (xs := fof a) (by repeat constructor) (fun lx mx => ?_)
        refine go_region rfl ?_
        refine go_pure0 Tk rfl rfl rfl ?_
        refine go_nil ?_
        refine go_env [(5, _), (7, _), (8, _), (9, _), (10, _), (11, _)] ⟨rfl, rfl, rfl, rfl, rfl, rfl, trivial⟩ ?_
        refine go_block ?_
        refine go_loop' (X := Nat) (fun k => [(11, .int .i64 (k : Int))]) [(5, _), (7, _), (8, _), (9, _), (10, _)] (fun _ => []) (fun k => k ≤ (fof a).length) (fun k => (fof a).length - k) (0) ⟨rfl, rfl, rfl, rfl, rfl, rfl, trivial⟩ (by repeat constructor) (by omega) ?_
        intro k hk
        refine go_seq ?_
        refine go_seq ?_
        refine go_region rfl ?_
        refine go_pure0 Tk rfl rfl rfl ?_
        refine go_pure0 Tk rfl rfl rfl ?_
        refine go_pure0 Tk rfl rfl rfl ?_
        refine go_pure0 Tk rfl rfl rfl ?_
        refine go_nil ?_
        refine go_env [(5, _), (7, _), (8, _), (9, _), (10, _), (11, _), (41, _)] ⟨rfl, rfl, rfl, rfl, rfl, rfl, rfl, trivial⟩ ?_
        refine go_condD rfl ?_ ?_
        · intro hq1
          refine go_skip ?_
          refine go_seq ?_
          refine go_block ?_
          refine go_seq ?_
          refine go_elem_fa (xs := fof a) (by repeat constructor) (k) (List.getElem?_eq_getElem (by omega)) (fun b0 o0 A0 c0 hA => ?_); cases hA
          refine go_draw'  [4, 10] (SL.pre [(1, 0), (1, 1), (1, 2), (1, 3), (1, 6), (1, 7), (1, 8), (1, 9), (2, 4), (2, 10), (0, 5), (0, 11), (1, 12)] .nil) mixed rfl (by kernel_rfl) ?_
          refine go_pure1 Tk rfl rfl rfl ?_
          refine go_pure1 Tk rfl rfl rfl ?_
          refine go_pure1 Tk rfl rfl rfl ?_
          refine go_val1 rfl (idx_val Tk rfl rfl rfl rfl rfl (by omega)) rfl ?_
          refine go_pure1 Tk rfl rfl rfl ?_
          refine go_pure1 Tk rfl rfl rfl ?_
          refine go_pure1 Tk rfl rfl rfl ?_
          refine go_val1 rfl (idx_val Tk rfl rfl rfl rfl rfl (by omega)) rfl ?_
          refine go_val2 rfl (load_val Tk rfl rfl rfl (by first | exact at_pt (by repeat constructor) (by rfl) | exact at_cl 0 (by repeat constructor) (by rfl) | exact at_cl 1 (by repeat constructor) (by rfl) | exact at_cl 2 (by repeat constructor) (by rfl) | exact at_cl 3 (by repeat constructor) (by rfl) | exact at_cl 4 (by repeat constructor) (by rfl) | exact at_cl 5 (by repeat constructor) (by rfl) | exact at_cl 6 (by repeat constructor) (by rfl) | exact at_cl 7 (by repeat constructor) (by rfl)) (by rfl)) (by repeat constructor) (by repeat constructor) rfl ?_
          refine go_val2 rfl (load_val Tk rfl rfl rfl (by first | exact at_pt (by repeat constructor) (by rfl) | exact at_cl 0 (by repeat constructor) (by rfl) | exact at_cl 1 (by repeat constructor) (by rfl) | exact at_cl 2 (by repeat constructor) (by rfl) | exact at_cl 3 (by repeat constructor) (by rfl) | exact at_cl 4 (by repeat constructor) (by rfl) | exact at_cl 5 (by repeat constructor) (by rfl) | exact at_cl 6 (by repeat constructor) (by rfl) | exact at_cl 7 (by repeat constructor) (by rfl)) (by rfl)) (by repeat constructor) (by repeat constructor) rfl ?_
          refine go_call (relHas bz (less (fof a) (fof b)) ((fof a)[k]) A0 c0 (FZ.r) (by omega)) rfl rfl (by rfl) rfl (by repeat constructor) (by repeat constructor) (fun _ v Ps' Os' hq => by obtain ⟨rfl, rfl, rfl⟩ := hq; exact satS (by repeat constructor) (by repeat constructor)) ?_
          rintro _ _ _ ⟨rfl, rfl, rfl⟩
          refine go_call (relHas by_ (fof b) ((fof a)[k]) A0 c0 (Fb.r) (by omega)) rfl rfl (by rfl) rfl (by repeat constructor) (by repeat constructor) (fun h => nomatch h) ?_
          rintro _ _ _ ⟨rfl, rfl, rfl⟩
          refine go_pure1 Tk rfl rfl rfl ?_
          refine go_re 56 (.bool false) (by show some (Value.bool _) = _; by_cases hc : (fof a)[k] ∈ fof b <;> simp [mem_less, hc]) ?_
          refine go_nil ?_
          refine go_env [(5, _), (7, _), (8, _), (9, _), (10, _), (11, _), (56, _)] ⟨rfl, rfl, rfl, rfl, rfl, rfl, rfl, trivial⟩ ?_
          refine go_cond_f rfl ?_
          refine go_skip ?_
          refine go_blk ?_
          refine go_region rfl ?_
          refine go_pure0 Tk rfl rfl rfl ?_
          refine go_pure0 Tk rfl rfl rfl ?_
          refine go_pure0 Tk rfl rfl rfl ?_
          refine go_nil ?_
          refine go_i64 11 rfl (by omega) (by omega) ?_
          refine go_back (k + 1) ⟨rfl, rfl, rfl, rfl, rfl, rfl, trivial⟩ (by repeat constructor) (by repeat constructor) (by omega) (by omega)
        · intro hq1
          refine go_exit rfl ?_
          refine go_seq ?_
          refine go_region rfl ?_
          refine go_pure0 Tk rfl rfl rfl ?_
          refine go_val0 rfl (load_val Tk rfl rfl rfl (by first | exact at_pt (by repeat constructor) (by rfl) | exact at_cl 0 (by repeat constructor) (by rfl) | exact at_cl 1 (by repeat constructor) (by rfl) | exact at_cl 2 (by repeat constructor) (by rfl) | exact at_cl 3 (by repeat constructor) (by rfl) | exact at_cl 4 (by repeat constructor) (by rfl) | exact at_cl 5 (by repeat constructor) (by rfl) | exact at_cl 6 (by repeat constructor) (by rfl) | exact at_cl 7 (by repeat constructor) (by rfl)) (by rfl)) rfl ?_
          refine go_call (relHasP bx (fof a) q QA qc Fa.r Fa.n) rfl rfl (by rfl) rfl (by repeat constructor) (by repeat constructor) (fun h => nomatch h) ?_
          rintro _ _ _ ⟨rfl, rfl, rfl⟩
          refine go_pure0 Tk rfl rfl rfl ?_
          refine go_nil ?_
          refine go_env [(5, _), (7, _), (8, _), (9, _), (10, _), (12, _)] ⟨rfl, rfl, rfl, rfl, rfl, rfl, trivial⟩ ?_
          refine go_seq ?_
          refine go_region rfl ?_
          refine go_pure0 Tk rfl rfl rfl ?_
          refine go_call (relLen by_ (fof b)) rfl rfl (by rfl) rfl (by repeat constructor) (by repeat constructor) (fun h => nomatch h) ?_
          rintro _ _ _ ⟨rfl, rfl, rfl⟩
          refine go_pure0 Tk rfl rfl rfl ?_
          refine go_nil ?_
          refine go_env [(5, _), (7, _), (8, _), (9, _), (10, _), (12, _), (13, _)] ⟨rfl, rfl, rfl, rfl, rfl, rfl, rfl, trivial⟩ ?_
          refine go_seq ?_
          refine go_region rfl ?_
          refine go_pure0 Tk rfl rfl rfl ?_
          refine go_val0 rfl (load_val Tk rfl rfl rfl (by first | exact at_pt (by repeat constructor) (by rfl) | exact at_cl 0 (by repeat constructor) (by rfl) | exact at_cl 1 (by repeat constructor) (by rfl) | exact at_cl 2 (by repeat constructor) (by rfl) | exact at_cl 3 (by repeat constructor) (by rfl) | exact at_cl 4 (by repeat constructor) (by rfl) | exact at_cl 5 (by repeat constructor) (by rfl) | exact at_cl 6 (by repeat constructor) (by rfl) | exact at_cl 7 (by repeat constructor) (by rfl)) (by rfl)) rfl ?_
          refine go_call (relPut bz (less (fof a) (fof b)) q QA qc FZ.r (by omega) (by omega)) rfl rfl (by rfl) rfl (by repeat constructor) (by repeat constructor) (fun h => nomatch h) ?_
          rintro _ _ _ ⟨rfl, rfl, rfl⟩
          refine go_nil ?_
          refine go_env [(5, _), (7, _), (8, _), (9, _), (10, _), (12, _), (13, _)] ⟨rfl, rfl, rfl, rfl, rfl, rfl, rfl, trivial⟩ ?_
          refine go_seq ?_
          refine go_region rfl ?_
          refine go_pure0 Tk rfl rfl rfl ?_
          refine go_val0 rfl (load_val Tk rfl rfl rfl (by first | exact at_pt (by repeat constructor) (by rfl) | exact at_cl 0 (by repeat constructor) (by rfl) | exact at_cl 1 (by repeat constructor) (by rfl) | exact at_cl 2 (by repeat constructor) (by rfl) | exact at_cl 3 (by repeat constructor) (by rfl) | exact at_cl 4 (by repeat constructor) (by rfl) | exact at_cl 5 (by repeat constructor) (by rfl) | exact at_cl 6 (by repeat constructor) (by rfl) | exact at_cl 7 (by repeat constructor) (by rfl)) (by rfl)) rfl ?_
          refine go_call (relPut by_ (fof b) q QA qc Fb.r (by omega) (by omega)) rfl rfl (by rfl) rfl (by repeat constructor) (by repeat constructor) (fun h => nomatch h) ?_
          rintro _ _ _ ⟨rfl, rfl, rfl⟩
          refine go_nil ?_
          refine go_env [(5, _), (7, _), (8, _), (9, _), (10, _), (12, _), (13, _)] ⟨rfl, rfl, rfl, rfl, rfl, rfl, rfl, trivial⟩ ?_
          refine go_seq ?_
          refine go_seq ?_
          refine go_region rfl ?_
          refine go_pure0 Tk rfl rfl rfl ?_
          refine go_val0 rfl (load_val Tk rfl rfl rfl (by first | exact at_pt (by repeat constructor) (by rfl) | exact at_cl 0 (by repeat constructor) (by rfl) | exact at_cl 1 (by repeat constructor) (by rfl) | exact at_cl 2 (by repeat constructor) (by rfl) | exact at_cl 3 (by repeat constructor) (by rfl) | exact at_cl 4 (by repeat constructor) (by rfl) | exact at_cl 5 (by repeat constructor) (by rfl) | exact at_cl 6 (by repeat constructor) (by rfl) | exact at_cl 7 (by repeat constructor) (by rfl)) (by rfl)) rfl ?_
          refine go_call (relHasP bx (fof a) q QA qc Fa.r Fa.n) rfl rfl (by rfl) rfl (by repeat constructor) (by repeat constructor) (fun h => nomatch h) ?_
          rintro _ _ _ ⟨rfl, rfl, rfl⟩
          refine go_pure0 Tk rfl rfl rfl ?_
          refine go_pure0 Tk rfl rfl rfl ?_
          refine go_re 72 (.bool false) (by show some (Value.bool _) = _; first | rfl | simp) ?_
          refine go_pure0 Tk rfl rfl rfl ?_
          refine go_pure0 Tk rfl rfl rfl ?_
          refine go_val0 rfl (load_val Tk rfl rfl rfl (by first | exact at_pt (by repeat constructor) (by rfl) | exact at_cl 0 (by repeat constructor) (by rfl) | exact at_cl 1 (by repeat constructor) (by rfl) | exact at_cl 2 (by repeat constructor) (by rfl) | exact at_cl 3 (by repeat constructor) (by rfl) | exact at_cl 4 (by repeat constructor) (by rfl) | exact at_cl 5 (by repeat constructor) (by rfl) | exact at_cl 6 (by repeat constructor) (by rfl) | exact at_cl 7 (by repeat constructor) (by rfl)) (by rfl)) rfl ?_
          refine go_call (relHas bz (fput (less (fof a) (fof b)) q) (q) QA qc (rises_fput FZ.r q) (by omega)) rfl rfl (by rfl) rfl (by repeat constructor) (by repeat constructor) (fun h => nomatch h) ?_
          rintro _ _ _ ⟨rfl, rfl, rfl⟩
          refine go_pure0 Tk rfl rfl rfl ?_
          refine go_re 77 (.bool false) (by show some (Value.bool _) = _; simp [fput_has]) ?_
          refine go_pure0 Tk rfl rfl rfl ?_
          refine go_pure0 Tk rfl rfl rfl ?_
          refine go_pure0 Tk rfl rfl rfl ?_
          refine go_call (relLen by_ (fput (fof b) q)) rfl rfl (by rfl) rfl (by repeat constructor) (by repeat constructor) (fun h => nomatch h) ?_
          rintro _ _ _ ⟨rfl, rfl, rfl⟩
          refine go_pure0 Tk rfl rfl rfl ?_
          refine go_pure0 Tk rfl rfl rfl ?_
          refine go_re 83 (.bool false) (by show some (Value.bool _) = _; rw [decide_eq_false (by omega)]) ?_
          refine go_pure0 Tk rfl rfl rfl ?_
          refine go_nil ?_
          refine go_env [(5, _), (7, _), (8, _), (9, _), (10, _), (84, _)] ⟨rfl, rfl, rfl, rfl, rfl, rfl, trivial⟩ ?_
          refine go_cond_f rfl ?_
          refine go_skip ?_
          refine go_seq ?_
          refine go_region rfl ?_
          refine go_pure0 Tk rfl rfl rfl ?_
          refine go_val0 rfl (load_val Tk rfl rfl rfl (by first | exact at_pt (by repeat constructor) (by rfl) | exact at_cl 0 (by repeat constructor) (by rfl) | exact at_cl 1 (by repeat constructor) (by rfl) | exact at_cl 2 (by repeat constructor) (by rfl) | exact at_cl 3 (by repeat constructor) (by rfl) | exact at_cl 4 (by repeat constructor) (by rfl) | exact at_cl 5 (by repeat constructor) (by rfl) | exact at_cl 6 (by repeat constructor) (by rfl) | exact at_cl 7 (by repeat constructor) (by rfl)) (by rfl)) rfl ?_
          refine go_call (relCut by_ (fput (fof b) q) q QA qc (rises_fput Fb.r q) (by omega)) rfl rfl (by rfl) rfl (by repeat constructor) (by repeat constructor) (fun h => nomatch h) ?_
          rintro _ _ _ ⟨rfl, rfl, rfl⟩
          refine go_nil ?_
          refine go_env [(5, _), (7, _), (8, _), (9, _), (10, _)] ⟨rfl, rfl, rfl, rfl, rfl, trivial⟩ ?_
          refine go_seq ?_
          have hlc := fcut_len (fput (fof b) q) q
          refine go_region rfl ?_
          refine go_pure0 Tk rfl rfl rfl ?_
          refine go_val0 rfl (load_val Tk rfl rfl rfl (by first | exact at_pt (by repeat constructor) (by rfl) | exact at_cl 0 (by repeat constructor) (by rfl) | exact at_cl 1 (by repeat constructor) (by rfl) | exact at_cl 2 (by repeat constructor) (by rfl) | exact at_cl 3 (by repeat constructor) (by rfl) | exact at_cl 4 (by repeat constructor) (by rfl) | exact at_cl 5 (by repeat constructor) (by rfl) | exact at_cl 6 (by repeat constructor) (by rfl) | exact at_cl 7 (by repeat constructor) (by rfl)) (by rfl)) rfl ?_
          refine go_call (relHas bz (fput (less (fof a) (fof b)) q) (q) QA qc (rises_fput FZ.r q) (by omega)) rfl rfl (by rfl) rfl (by repeat constructor) (by repeat constructor) (fun h => nomatch h) ?_
          rintro _ _ _ ⟨rfl, rfl, rfl⟩
          refine go_re 90 (.bool true) (by show some (Value.bool _) = _; simp [fput_has]) ?_
          refine go_pure0 Tk rfl rfl rfl ?_
          refine go_pure0 Tk rfl rfl rfl ?_
          refine go_val0 rfl (load_val Tk rfl rfl rfl (by first | exact at_pt (by repeat constructor) (by rfl) | exact at_cl 0 (by repeat constructor) (by rfl) | exact at_cl 1 (by repeat constructor) (by rfl) | exact at_cl 2 (by repeat constructor) (by rfl) | exact at_cl 3 (by repeat constructor) (by rfl) | exact at_cl 4 (by repeat constructor) (by rfl) | exact at_cl 5 (by repeat constructor) (by rfl) | exact at_cl 6 (by repeat constructor) (by rfl) | exact at_cl 7 (by repeat constructor) (by rfl)) (by rfl)) rfl ?_
          refine go_call (relHas by_ (fcut (fput (fof b) q) q) (q) QA qc (rises_fcut (rises_fput Fb.r q) q) (by omega)) rfl rfl (by rfl) rfl (by repeat constructor) (by repeat constructor) (fun h => nomatch h) ?_
          rintro _ _ _ ⟨rfl, rfl, rfl⟩
          refine go_pure0 Tk rfl rfl rfl ?_
          refine go_re 95 (.bool true) (by show some (Value.bool _) = _; simp [fcut_has (rises_fput (rises_fof b) q)]) ?_
          refine go_pure0 Tk rfl rfl rfl ?_
          refine go_pure0 Tk rfl rfl rfl ?_
          refine go_pure0 Tk rfl rfl rfl ?_
          refine go_call (relLenP bx (fof a)) rfl rfl (by rfl) rfl (by repeat constructor) (by repeat constructor) (fun h => nomatch h) ?_
          rintro _ _ _ ⟨rfl, rfl, rfl⟩
          refine go_pure0 Tk rfl rfl rfl ?_
          refine go_pure0 Tk rfl rfl rfl ?_
          refine go_pure0 Tk rfl rfl rfl ?_
          refine go_re 102 (.bool true) (by show some (Value.bool _) = _; first | rfl | simp) ?_
          refine go_pure0 Tk rfl rfl rfl ?_
          refine go_pure0 Tk rfl rfl rfl ?_
          refine go_call (lawWorks10) rfl rfl (by rfl) rfl (by repeat constructor) (by repeat constructor) (fun h => nomatch h) ?_
          rintro _ _ _ ⟨rfl, rfl, rfl⟩
          refine go_pure0 Tk rfl rfl rfl ?_
          refine go_pure0 Tk rfl rfl rfl ?_
          refine go_nil ?_
          refine go_env [(6, _)] ⟨rfl, trivial⟩ ?_
          refine go_ret ⟨rfl, rfl⟩ _ _ (fun a w hp ho hf hs => res1 (by rfl) (.tmp rfl) a w hp ho hf hs) ⟨rfl, rfl, rfl⟩ (by repeat constructor) (by repeat constructor)

set_option maxHeartbeats 2000000 in
set_option maxRecDepth 20000 in
theorem lawRelAlgebra (a : List Fa) (AA : Option Addr) (ac : Nat) (ga : ∀ x ∈ a, x.ok) (b : List Fa) (BA : Option Addr) (bc : Nat) (gb : ∀ x ∈ b, x.ok) (d : List Fa) (DA : Option Addr) (dc : Nat) (gd : ∀ x ∈ d, x.ok) :
    Spec Try.prog 13 #[.slice AA a.length ac, .slice BA b.length bc, .slice DA d.length dc] [sl tFa AA ac a, sl tFa BA bc b, sl tFa DA dc d] [] (fun v Ps' Os' => v = .bool true ∧ Ps' = [] ∧ Os' = []) := by
  refine spec_of (fn := Try.f13) (args := [.slice AA a.length ac, .slice BA b.length bc, .slice DA d.length dc]) 134 Try.func13 rfl (by kernel_rfl) Try.ntmps13 (Nat.le_of_ble_eq_true rfl) (fun w0 hp0 hf0 => ?_)
  refine go_seq ?_
  refine go_region rfl ?_
  refine go_pure0 Tk rfl rfl rfl ?_
  refine go_nil ?_
  refine go_env [(0, _), (1, _), (2, _)] ⟨rfl, rfl, rfl, trivial⟩ ?_
  refine go_seq ?_
  refine go_seq ?_
  refine go_region rfl ?_
  refine go_pure0 Tk rfl rfl rfl ?_
  refine go_call (lawFew AA ac a) rfl rfl (by rfl) rfl (by repeat constructor) (by repeat constructor) (fun h => nomatch h) ?_
  rintro _ _ _ ⟨rfl, rfl, rfl⟩
  refine go_pure0 Tk rfl rfl rfl ?_
  refine go_pure0 Tk rfl rfl rfl ?_
  refine go_known 20 rfl ?_ ?_
  · intro f1
    (try simp only [decide_eq_true_eq, decide_eq_false_iff_not, Bool.not_eq_true', Bool.not_eq_false', Bool.not_eq_eq_eq_not, Bool.not_true, Bool.not_false, Int.not_lt, Int.not_le, beq_iff_eq, beq_eq_false_iff_ne, ne_eq] at f1)
    refine go_skip0 rfl rfl ?_
    refine go_skip0 rfl rfl ?_
    refine go_skip0 rfl rfl ?_
    refine go_pure0 Tk rfl rfl rfl ?_
    refine go_pure0 Tk rfl rfl rfl ?_
    refine go_skip0 rfl rfl ?_
    refine go_skip0 rfl rfl ?_
    refine go_skip0 rfl rfl ?_
    refine go_pure0 Tk rfl rfl rfl ?_
    refine go_nil ?_
    refine go_env [(0, _), (1, _), (2, _), (29, _)] ⟨rfl, rfl, rfl, rfl, trivial⟩ ?_
    refine go_cond_t rfl ?_
    refine go_seq ?_
    refine go_region rfl ?_
    refine go_call (lawWorks10) rfl rfl (by rfl) rfl (by repeat constructor) (by repeat constructor) (fun h => nomatch h) ?_
    rintro _ _ _ ⟨rfl, rfl, rfl⟩
    refine go_pure0 Tk rfl rfl rfl ?_
    refine go_nil ?_
    refine go_env [(6, _)] ⟨rfl, trivial⟩ ?_
    refine go_ret ⟨rfl, rfl⟩ _ _ (fun a w hp ho hf hs => res1 (by rfl) (.tmp rfl) a w hp ho hf hs) ⟨rfl, rfl, rfl⟩ (by repeat constructor) (by repeat constructor)
  · intro f1
    (try simp only [decide_eq_true_eq, decide_eq_false_iff_not, Bool.not_eq_true', Bool.not_eq_false', Bool.not_eq_eq_eq_not, Bool.not_true, Bool.not_false, Int.not_lt, Int.not_le, beq_iff_eq, beq_eq_false_iff_ne, ne_eq] at f1)
    refine go_pure0 Tk rfl rfl rfl ?_
    refine go_call (lawFew BA bc b) rfl rfl (by rfl) rfl (by repeat constructor) (by repeat constructor) (fun h => nomatch h) ?_
    rintro _ _ _ ⟨rfl, rfl, rfl⟩
    refine go_pure0 Tk rfl rfl rfl ?_
    refine go_pure0 Tk rfl rfl rfl ?_
    refine go_pure0 Tk rfl rfl rfl ?_
    refine go_known 25 rfl ?_ ?_
    · intro f2
      (try simp only [decide_eq_true_eq, decide_eq_false_iff_not, Bool.not_eq_true', Bool.not_eq_false', Bool.not_eq_eq_eq_not, Bool.not_true, Bool.not_false, Int.not_lt, Int.not_le, beq_iff_eq, beq_eq_false_iff_ne, ne_eq] at f2)
      refine go_skip0 rfl rfl ?_
      refine go_skip0 rfl rfl ?_
      refine go_skip0 rfl rfl ?_
      refine go_pure0 Tk rfl rfl rfl ?_
      refine go_nil ?_
      refine go_env [(0, _), (1, _), (2, _), (29, _)] ⟨rfl, rfl, rfl, rfl, trivial⟩ ?_
      refine go_cond_t rfl ?_
      refine go_seq ?_
      refine go_region rfl ?_
      refine go_call (lawWorks10) rfl rfl (by rfl) rfl (by repeat constructor) (by repeat constructor) (fun h => nomatch h) ?_
      rintro _ _ _ ⟨rfl, rfl, rfl⟩
      refine go_pure0 Tk rfl rfl rfl ?_
      refine go_nil ?_
      refine go_env [(6, _)] ⟨rfl, trivial⟩ ?_
      refine go_ret ⟨rfl, rfl⟩ _ _ (fun a w hp ho hf hs => res1 (by rfl) (.tmp rfl) a w hp ho hf hs) ⟨rfl, rfl, rfl⟩ (by repeat constructor) (by repeat constructor)
    · intro f2
      (try simp only [decide_eq_true_eq, decide_eq_false_iff_not, Bool.not_eq_true', Bool.not_eq_false', Bool.not_eq_eq_eq_not, Bool.not_true, Bool.not_false, Int.not_lt, Int.not_le, beq_iff_eq, beq_eq_false_iff_ne, ne_eq] at f2)
      refine go_pure0 Tk rfl rfl rfl ?_
      refine go_call (lawFew DA dc d) rfl rfl (by rfl) rfl (by repeat constructor) (by repeat constructor) (fun h => nomatch h) ?_
      rintro _ _ _ ⟨rfl, rfl, rfl⟩
      refine go_pure0 Tk rfl rfl rfl ?_
      refine go_pure0 Tk rfl rfl rfl ?_
      refine go_nil ?_
      refine go_env [(0, _), (1, _), (2, _), (29, _)] ⟨rfl, rfl, rfl, rfl, trivial⟩ ?_
      refine go_cond rfl ?_ ?_
      · intro f3
        (try simp only [decide_eq_true_eq, decide_eq_false_iff_not, Bool.not_eq_true', Bool.not_eq_false', Bool.not_eq_eq_eq_not, Bool.not_true, Bool.not_false, Int.not_lt, Int.not_le, beq_iff_eq, beq_eq_false_iff_ne, ne_eq] at f3)
        refine go_seq ?_
        refine go_region rfl ?_
        refine go_call (lawWorks10) rfl rfl (by rfl) rfl (by repeat constructor) (by repeat constructor) (fun h => nomatch h) ?_
        rintro _ _ _ ⟨rfl, rfl, rfl⟩
        refine go_pure0 Tk rfl rfl rfl ?_
        refine go_nil ?_
        refine go_env [(6, _)] ⟨rfl, trivial⟩ ?_
        refine go_ret ⟨rfl, rfl⟩ _ _ (fun a w hp ho hf hs => res1 (by rfl) (.tmp rfl) a w hp ho hf hs) ⟨rfl, rfl, rfl⟩ (by repeat constructor) (by repeat constructor)
      · intro f3
        (try simp only [decide_eq_true_eq, decide_eq_false_iff_not, Bool.not_eq_true', Bool.not_eq_false', Bool.not_eq_eq_eq_not, Bool.not_true, Bool.not_false, Int.not_lt, Int.not_le, beq_iff_eq, beq_eq_false_iff_ne, ne_eq] at f3)
        refine go_skip ?_
        refine go_seq ?_
        refine go_len (xs := a) (by repeat constructor) (fun la ma => ?_)
        refine go_len (xs := b) (by repeat constructor) (fun lb mb => ?_)
        refine go_len (xs := d) (by repeat constructor) (fun ld md => ?_)
        have fa : fewF a = true := f1
        have fb : fewF b = true := f2
        have fd : fewF d = true := f3
        obtain ⟨hna, hba⟩ := fewF_iff.1 fa
        have hNa : a.length ≤ 1000000 := by omega
        have hBa : ∀ x ∈ a, x.a.length ≤ 100000 := fun x hx => Nat.le_trans (hba x hx) (by omega)
        have Fa : Fine (fof a) := Fine.few fa
        obtain ⟨hnb, hbb⟩ := fewF_iff.1 fb
        have hNb : b.length ≤ 1000000 := by omega
        have hBb : ∀ x ∈ b, x.a.length ≤ 100000 := fun x hx => Nat.le_trans (hbb x hx) (by omega)
        have Fb : Fine (fof b) := Fine.few fb
        obtain ⟨hnd, hbd⟩ := fewF_iff.1 fd
        have hNd : d.length ≤ 1000000 := by omega
        have hBd : ∀ x ∈ d, x.a.length ≤ 100000 := fun x hx => Nat.le_trans (hbd x hx) (by omega)
        have Fd : Fine (fof d) := Fine.few fd
        have hNbd : (b ++ d).length ≤ 1000000 := by simp; omega
        have hBbd : ∀ x ∈ b ++ d, x.a.length ≤ 100000 := fun x hx => (List.mem_append.1 hx).elim (hBb x) (hBd x)
        have Fbd : Fine (fof (b ++ d)) := Fine.fof hNbd hBbd
        refine go_region rfl ?_
        refine go_pure0 Tk rfl rfl rfl ?_
        refine go_call (lawCopies AA ac a hNa hBa) rfl rfl (by rfl) rfl (by repeat constructor) (by repeat constructor) (fun h => nomatch h) ?_
        rintro _ _ _ ⟨A1, c1, rfl, rfl, rfl⟩
        refine go_freeze_dl (T := tFa) (A := A1) (by repeat constructor) ?_
        refine go_call (relOf A1 c1 a hNa hBa) rfl rfl (by rfl) rfl (by repeat constructor) (by repeat constructor) (fun h => nomatch h) ?_
        rintro _ _ _ ⟨bx, rfl, rfl, rfl⟩
        refine go_freeze_rel (b := bx) (by repeat constructor) ?_
        refine go_ent (relN (some ⟨bx, 0, none⟩) (fof a)) (fun hh hps => relN_some (hps (relP bx (fof a)) (by repeat constructor))) ?_
        refine go_pure0 Tk rfl rfl rfl ?_
        refine go_nil ?_
        refine go_env [(1, _), (2, _), (7, _)] ⟨rfl, rfl, rfl, trivial⟩ ?_
        refine go_seq ?_
        refine go_region rfl ?_
        refine go_pure0 Tk rfl rfl rfl ?_
        refine go_call (lawCopies BA bc b hNb hBb) rfl rfl (by rfl) rfl (by repeat constructor) (by repeat constructor) (fun h => nomatch h) ?_
        rintro _ _ _ ⟨A2, c2, rfl, rfl, rfl⟩
        refine go_freeze_dl (T := tFa) (A := A2) (by repeat constructor) ?_
        refine go_call (relOf A2 c2 b hNb hBb) rfl rfl (by rfl) rfl (by repeat constructor) (by repeat constructor) (fun h => nomatch h) ?_
        rintro _ _ _ ⟨by_, rfl, rfl, rfl⟩
        refine go_freeze_rel (b := by_) (by repeat constructor) ?_
        refine go_ent (relN (some ⟨by_, 0, none⟩) (fof b)) (fun hh hps => relN_some (hps (relP by_ (fof b)) (by repeat constructor))) ?_
        refine go_pure0 Tk rfl rfl rfl ?_
        refine go_nil ?_
        refine go_env [(1, _), (2, _), (7, _), (8, _)] ⟨rfl, rfl, rfl, rfl, trivial⟩ ?_
        refine go_seq ?_
        refine go_region rfl ?_
        refine go_pure0 Tk rfl rfl rfl ?_
        refine go_call (lawCopies DA dc d hNd hBd) rfl rfl (by rfl) rfl (by repeat constructor) (by repeat constructor) (fun h => nomatch h) ?_
        rintro _ _ _ ⟨A3, c3, rfl, rfl, rfl⟩
        refine go_freeze_dl (T := tFa) (A := A3) (by repeat constructor) ?_
        refine go_call (relOf A3 c3 d hNd hBd) rfl rfl (by rfl) rfl (by repeat constructor) (by repeat constructor) (fun h => nomatch h) ?_
        rintro _ _ _ ⟨bz, rfl, rfl, rfl⟩
        refine go_freeze_rel (b := bz) (by repeat constructor) ?_
        refine go_ent (relN (some ⟨bz, 0, none⟩) (fof d)) (fun hh hps => relN_some (hps (relP bz (fof d)) (by repeat constructor))) ?_
        refine go_pure0 Tk rfl rfl rfl ?_
        refine go_nil ?_
        refine go_env [(1, _), (2, _), (7, _), (8, _), (9, _)] ⟨rfl, rfl, rfl, rfl, rfl, trivial⟩ ?_
        refine go_seq ?_
        refine go_region rfl ?_
        refine go_pure0 Tk rfl rfl rfl ?_
        refine go_call (lawCopies BA bc b hNb hBb) rfl rfl (by rfl) rfl (by repeat constructor) (by repeat constructor) (fun h => nomatch h) ?_
        rintro _ _ _ ⟨A4, c4, rfl, rfl, rfl⟩
        refine go_dl_ol (T := tFa) (A := A4) (by repeat constructor) ?_
        refine go_pure0 Tk rfl rfl rfl ?_
        refine go_call (lawCopies DA dc d hNd hBd) rfl rfl (by rfl) rfl (by repeat constructor) (by repeat constructor) (fun h => nomatch h) ?_
        rintro _ _ _ ⟨A5, c5, rfl, rfl, rfl⟩
        refine go_freeze_dl (T := tFa) (A := A5) (by repeat constructor) ?_
        refine go_appendN (T := tFa) (xs := b) (ys := d) Tk rfl rfl rfl rfl rfl rfl rfl rfl rfl (by repeat constructor) rfl (by repeat constructor) (by omega) (by first | exact (fun _ _ _ => satS (by repeat constructor) (by repeat constructor)) | exact (fun h => nomatch h) | exact (fun h => nomatch (Eq.symm h).trans (show _ = false by kernel_rfl))) ?_
        intro A6 c6
        refine go_freeze_ol (xs := b ++ d) (by repeat constructor) ?_
        refine go_call (relOf A6 c6 (b ++ d) hNbd hBbd) rfl rfl (by rfl) rfl (by repeat constructor) (by repeat constructor) (fun h => nomatch h) ?_
        rintro _ _ _ ⟨bw, rfl, rfl, rfl⟩
        refine go_freeze_rel (b := bw) (by repeat constructor) ?_
        refine go_ent (relN (some ⟨bw, 0, none⟩) (fof (b ++ d))) (fun hh hps => relN_some (hps (relP bw (fof (b ++ d))) (by repeat constructor))) ?_
        refine go_pure0 Tk rfl rfl rfl ?_
        refine go_nil ?_
        refine go_env [(7, _), (8, _), (9, _), (10, _)] ⟨rfl, rfl, rfl, rfl, trivial⟩ ?_
        refine go_seq ?_
        refine go_region rfl ?_
        refine go_pure0 Tk rfl rfl rfl ?_
        refine go_pure0 Tk rfl rfl rfl ?_
        refine go_call (relLessN (some ⟨bx, 0, none⟩) (fof a) (some ⟨by_, 0, none⟩) (fof b) (Fb).r (Fb).n (Fa).n (Fa).b) rfl rfl (by rfl) rfl (by repeat constructor) (by repeat constructor) (fun h => nomatch h) ?_
        rintro _ _ _ ⟨b1, rfl, rfl, rfl⟩
        refine go_relD (b := b1) (by repeat constructor) ?_
        refine go_freeze_rel (b := b1) (by repeat constructor) ?_
        refine go_ent (relN (some ⟨b1, 0, none⟩) (less (fof a) (fof b))) (fun hh hps => relN_some (hps (relP b1 (less (fof a) (fof b))) (by repeat constructor))) ?_
        refine go_pure0 Tk rfl rfl rfl ?_
        refine go_call (relLessN (some ⟨b1, 0, none⟩) (less (fof a) (fof b)) (some ⟨bz, 0, none⟩) (fof d) (Fd).r (Fd).n (Fa.less _).n (Fa.less _).b) rfl rfl (by rfl) rfl (by repeat constructor) (by repeat constructor) (fun h => nomatch h) ?_
        rintro _ _ _ ⟨b2, rfl, rfl, rfl⟩
        refine go_relD (b := b2) (by repeat constructor) ?_
        refine go_freeze_rel (b := b2) (by repeat constructor) ?_
        refine go_ent (relN (some ⟨b2, 0, none⟩) (less (less (fof a) (fof b)) (fof d))) (fun hh hps => relN_some (hps (relP b2 (less (less (fof a) (fof b)) (fof d))) (by repeat constructor))) ?_
        refine go_pure0 Tk rfl rfl rfl ?_
        refine go_nil ?_
        refine go_env [(7, _), (8, _), (9, _), (10, _), (11, _)] ⟨rfl, rfl, rfl, rfl, rfl, trivial⟩ ?_
        refine go_seq ?_
        refine go_region rfl ?_
        refine go_pure0 Tk rfl rfl rfl ?_
        refine go_pure0 Tk rfl rfl rfl ?_
        refine go_call (relLessN (some ⟨bx, 0, none⟩) (fof a) (some ⟨bz, 0, none⟩) (fof d) (Fd).r (Fd).n (Fa).n (Fa).b) rfl rfl (by rfl) rfl (by repeat constructor) (by repeat constructor) (fun h => nomatch h) ?_
        rintro _ _ _ ⟨b3, rfl, rfl, rfl⟩
        refine go_relD (b := b3) (by repeat constructor) ?_
        refine go_freeze_rel (b := b3) (by repeat constructor) ?_
        refine go_ent (relN (some ⟨b3, 0, none⟩) (less (fof a) (fof d))) (fun hh hps => relN_some (hps (relP b3 (less (fof a) (fof d))) (by repeat constructor))) ?_
        refine go_pure0 Tk rfl rfl rfl ?_
        refine go_call (relLessN (some ⟨b3, 0, none⟩) (less (fof a) (fof d)) (some ⟨by_, 0, none⟩) (fof b) (Fb).r (Fb).n (Fa.less _).n (Fa.less _).b) rfl rfl (by rfl) rfl (by repeat constructor) (by repeat constructor) (fun h => nomatch h) ?_
        rintro _ _ _ ⟨b4, rfl, rfl, rfl⟩
        refine go_relD (b := b4) (by repeat constructor) ?_
        refine go_freeze_rel (b := b4) (by repeat constructor) ?_
        refine go_ent (relN (some ⟨b4, 0, none⟩) (less (less (fof a) (fof d)) (fof b))) (fun hh hps => relN_some (hps (relP b4 (less (less (fof a) (fof d)) (fof b))) (by repeat constructor))) ?_
        refine go_pure0 Tk rfl rfl rfl ?_
        refine go_nil ?_
        refine go_env [(7, _), (8, _), (10, _), (11, _), (12, _)] ⟨rfl, rfl, rfl, rfl, rfl, trivial⟩ ?_
        refine go_seq ?_
        refine go_region rfl ?_
        refine go_pure0 Tk rfl rfl rfl ?_
        refine go_pure0 Tk rfl rfl rfl ?_
        refine go_call (relLessN (some ⟨bx, 0, none⟩) (fof a) (some ⟨bw, 0, none⟩) (fof (b ++ d)) (Fbd).r (Fbd).n (Fa).n (Fa).b) rfl rfl (by rfl) rfl (by repeat constructor) (by repeat constructor) (fun h => nomatch h) ?_
        rintro _ _ _ ⟨b5, rfl, rfl, rfl⟩
        refine go_relD (b := b5) (by repeat constructor) ?_
        refine go_freeze_rel (b := b5) (by repeat constructor) ?_
        refine go_ent (relN (some ⟨b5, 0, none⟩) (less (fof a) (fof (b ++ d)))) (fun hh hps => relN_some (hps (relP b5 (less (fof a) (fof (b ++ d)))) (by repeat constructor))) ?_
        refine go_pure0 Tk rfl rfl rfl ?_
        refine go_nil ?_
        refine go_env [(7, _), (8, _), (11, _), (12, _), (13, _)] ⟨rfl, rfl, rfl, rfl, rfl, trivial⟩ ?_
        refine go_seq ?_
        refine go_region rfl ?_
        refine go_pure0 Tk rfl rfl rfl ?_
        refine go_pure0 Tk rfl rfl rfl ?_
        refine go_pure0 Tk rfl rfl rfl ?_
        refine go_call (relLessN (some ⟨bx, 0, none⟩) (fof a) (some ⟨by_, 0, none⟩) (fof b) (Fb).r (Fb).n (Fa).n (Fa).b) rfl rfl (by rfl) rfl (by repeat constructor) (by repeat constructor) (fun h => nomatch h) ?_
        rintro _ _ _ ⟨b6, rfl, rfl, rfl⟩
        refine go_relD (b := b6) (by repeat constructor) ?_
        refine go_freeze_rel (b := b6) (by repeat constructor) ?_
        refine go_ent (relN (some ⟨b6, 0, none⟩) (less (fof a) (fof b))) (fun hh hps => relN_some (hps (relP b6 (less (fof a) (fof b))) (by repeat constructor))) ?_
        refine go_call (relLessN (some ⟨bx, 0, none⟩) (fof a) (some ⟨b6, 0, none⟩) (less (fof a) (fof b)) (Fa.less _).r (Fa.less _).n (Fa).n (Fa).b) rfl rfl (by rfl) rfl (by repeat constructor) (by repeat constructor) (fun h => nomatch h) ?_
        rintro _ _ _ ⟨b7, rfl, rfl, rfl⟩
        refine go_relD (b := b7) (by repeat constructor) ?_
        refine go_freeze_rel (b := b7) (by repeat constructor) ?_
        refine go_ent (relN (some ⟨b7, 0, none⟩) (less (fof a) (less (fof a) (fof b)))) (fun hh hps => relN_some (hps (relP b7 (less (fof a) (less (fof a) (fof b)))) (by repeat constructor))) ?_
        refine go_pure0 Tk rfl rfl rfl ?_
        refine go_nil ?_
        refine go_env [(7, _), (8, _), (11, _), (12, _), (13, _), (14, _)] ⟨rfl, rfl, rfl, rfl, rfl, rfl, trivial⟩ ?_
        refine go_seq ?_
        refine go_seq ?_
        refine go_region rfl ?_
        refine go_pure0 Tk rfl rfl rfl ?_
        refine go_call (relListN (some ⟨b2, 0, none⟩) (less (less (fof a) (fof b)) (fof d)) ((Fa.less _).less _).n ((Fa.less _).less _).b) rfl rfl (by rfl) rfl (by repeat constructor) (by repeat constructor) (fun h => nomatch h) ?_
        rintro _ _ _ ⟨B1, d1, rfl, rfl, rfl⟩
        refine go_freeze_dl (T := tFa) (A := B1) (by repeat constructor) ?_
        refine go_pure0 Tk rfl rfl rfl ?_
        refine go_call (relListN (some ⟨b4, 0, none⟩) (less (less (fof a) (fof d)) (fof b)) ((Fa.less _).less _).n ((Fa.less _).less _).b) rfl rfl (by rfl) rfl (by repeat constructor) (by repeat constructor) (fun h => nomatch h) ?_
        rintro _ _ _ ⟨B2, d2, rfl, rfl, rfl⟩
        refine go_freeze_dl (T := tFa) (A := B2) (by repeat constructor) ?_
        refine go_call (lawSame B1 d1 (less (less (fof a) (fof b)) (fof d)) B2 d2 (less (less (fof a) (fof d)) (fof b))) rfl rfl (by rfl) rfl (by repeat constructor) (by repeat constructor) (fun h => nomatch h) ?_
        rintro _ _ _ ⟨rfl, rfl, rfl⟩
        refine go_pure0 Tk rfl rfl rfl ?_
        refine go_re 69 (.bool false) (by show some (Value.bool _) = _; rw [less_less]; simp) ?_
        refine go_pure0 Tk rfl rfl rfl ?_
        refine go_pure0 Tk rfl rfl rfl ?_
        refine go_call (relListN (some ⟨b2, 0, none⟩) (less (less (fof a) (fof b)) (fof d)) ((Fa.less _).less _).n ((Fa.less _).less _).b) rfl rfl (by rfl) rfl (by repeat constructor) (by repeat constructor) (fun h => nomatch h) ?_
        rintro _ _ _ ⟨B3, d3, rfl, rfl, rfl⟩
        refine go_freeze_dl (T := tFa) (A := B3) (by repeat constructor) ?_
        refine go_pure0 Tk rfl rfl rfl ?_
        refine go_call (relListN (some ⟨b5, 0, none⟩) (less (fof a) (fof (b ++ d))) (Fa.less _).n (Fa.less _).b) rfl rfl (by rfl) rfl (by repeat constructor) (by repeat constructor) (fun h => nomatch h) ?_
        rintro _ _ _ ⟨B4, d4, rfl, rfl, rfl⟩
        refine go_freeze_dl (T := tFa) (A := B4) (by repeat constructor) ?_
        refine go_call (lawSame B3 d3 (less (less (fof a) (fof b)) (fof d)) B4 d4 (less (fof a) (fof (b ++ d)))) rfl rfl (by rfl) rfl (by repeat constructor) (by repeat constructor) (fun h => nomatch h) ?_
        rintro _ _ _ ⟨rfl, rfl, rfl⟩
        refine go_pure0 Tk rfl rfl rfl ?_
        refine go_re 76 (.bool false) (by show some (Value.bool _) = _; rw [less_both]; simp) ?_
        refine go_pure0 Tk rfl rfl rfl ?_
        refine go_pure0 Tk rfl rfl rfl ?_
        refine go_pure0 Tk rfl rfl rfl ?_
        refine go_pure0 Tk rfl rfl rfl ?_
        refine go_call (relLessN (some ⟨bx, 0, none⟩) (fof a) (some ⟨bx, 0, none⟩) (fof a) (Fa).r (Fa).n (Fa).n (Fa).b) rfl rfl (by rfl) rfl (by repeat constructor) (by repeat constructor) (fun h => nomatch h) ?_
        rintro _ _ _ ⟨b8, rfl, rfl, rfl⟩
        refine go_relD (b := b8) (by repeat constructor) ?_
        refine go_freeze_rel (b := b8) (by repeat constructor) ?_
        refine go_ent (relN (some ⟨b8, 0, none⟩) (less (fof a) (fof a))) (fun hh hps => relN_some (hps (relP b8 (less (fof a) (fof a))) (by repeat constructor))) ?_
        refine go_call (relLenP b8 (less (fof a) (fof a))) rfl rfl (by rfl) rfl (by repeat constructor) (by repeat constructor) (fun h => nomatch h) ?_
        rintro _ _ _ ⟨rfl, rfl, rfl⟩
        rw [show ((less (fof a) (fof a)).length : Int) = 0 from by rw [less_self]; rfl]
        refine go_pure0 Tk rfl rfl rfl ?_
        refine go_re 83 (.bool false) (by show some (Value.bool _) = _; first | rfl | simp) ?_
        refine go_pure0 Tk rfl rfl rfl ?_
        refine go_pure0 Tk rfl rfl rfl ?_
        refine go_pure0 Tk rfl rfl rfl ?_
        refine go_call (relListN (some ⟨b7, 0, none⟩) (less (fof a) (less (fof a) (fof b))) (Fa.less _).n (Fa.less _).b) rfl rfl (by rfl) rfl (by repeat constructor) (by repeat constructor) (fun h => nomatch h) ?_
        rintro _ _ _ ⟨B5, d5, rfl, rfl, rfl⟩
        refine go_freeze_dl (T := tFa) (A := B5) (by repeat constructor) ?_
        refine go_pure0 Tk rfl rfl rfl ?_
        refine go_pure0 Tk rfl rfl rfl ?_
        refine go_pure0 Tk rfl rfl rfl ?_
        refine go_call (relLessN (some ⟨by_, 0, none⟩) (fof b) (some ⟨bx, 0, none⟩) (fof a) (Fa).r (Fa).n (Fb).n (Fb).b) rfl rfl (by rfl) rfl (by repeat constructor) (by repeat constructor) (fun h => nomatch h) ?_
        rintro _ _ _ ⟨b9, rfl, rfl, rfl⟩
        refine go_relD (b := b9) (by repeat constructor) ?_
        refine go_freeze_rel (b := b9) (by repeat constructor) ?_
        refine go_ent (relN (some ⟨b9, 0, none⟩) (less (fof b) (fof a))) (fun hh hps => relN_some (hps (relP b9 (less (fof b) (fof a))) (by repeat constructor))) ?_
        refine go_call (relLessN (some ⟨by_, 0, none⟩) (fof b) (some ⟨b9, 0, none⟩) (less (fof b) (fof a)) (Fb.less _).r (Fb.less _).n (Fb).n (Fb).b) rfl rfl (by rfl) rfl (by repeat constructor) (by repeat constructor) (fun h => nomatch h) ?_
        rintro _ _ _ ⟨b10, rfl, rfl, rfl⟩
        refine go_relD (b := b10) (by repeat constructor) ?_
        refine go_freeze_rel (b := b10) (by repeat constructor) ?_
        refine go_ent (relN (some ⟨b10, 0, none⟩) (less (fof b) (less (fof b) (fof a)))) (fun hh hps => relN_some (hps (relP b10 (less (fof b) (less (fof b) (fof a)))) (by repeat constructor))) ?_
        refine go_call (relListN (some ⟨b10, 0, none⟩) (less (fof b) (less (fof b) (fof a))) (Fb.less _).n (Fb.less _).b) rfl rfl (by rfl) rfl (by repeat constructor) (by repeat constructor) (fun h => nomatch h) ?_
        rintro _ _ _ ⟨B6, d6, rfl, rfl, rfl⟩
        refine go_freeze_dl (T := tFa) (A := B6) (by repeat constructor) ?_
        refine go_call (lawSame B5 d5 (less (fof a) (less (fof a) (fof b))) B6 d6 (less (fof b) (less (fof b) (fof a)))) rfl rfl (by rfl) rfl (by repeat constructor) (by repeat constructor) (fun h => nomatch h) ?_
        rintro _ _ _ ⟨rfl, rfl, rfl⟩
        refine go_pure0 Tk rfl rfl rfl ?_
        refine go_re 95 (.bool false) (by show some (Value.bool _) = _; rw [less_common (rises_fof a) (rises_fof b)]; simp) ?_
        refine go_pure0 Tk rfl rfl rfl ?_
        refine go_nil ?_
        refine go_env [(7, _), (8, _), (14, _), (96, _)] ⟨rfl, rfl, rfl, rfl, trivial⟩ ?_
        refine go_cond_f rfl ?_
        refine go_skip ?_
        refine go_seq ?_
        refine go_region rfl ?_
        refine go_pure0 Tk rfl rfl rfl ?_
        refine go_call (relListN (some ⟨b7, 0, none⟩) (less (fof a) (less (fof a) (fof b))) (Fa.less _).n (Fa.less _).b) rfl rfl (by rfl) rfl (by repeat constructor) (by repeat constructor) (fun h => nomatch h) ?_
        rintro _ _ _ ⟨B7, d7, rfl, rfl, rfl⟩
        refine go_freeze_dl (T := tFa) (A := B7) (by repeat constructor) ?_
        refine go_pure0 Tk rfl rfl rfl ?_
        refine go_nil ?_
        refine go_env [(7, _), (8, _), (14, _), (15, _)] ⟨rfl, rfl, rfl, rfl, trivial⟩ ?_
        refine go_seq ?_
        refine go_seq ?_
        refine go_len (xs := less (fof a) (less (fof a) (fof b))) (by repeat constructor) (fun lx mx => ?_)
        refine go_region rfl ?_
        refine go_pure0 Tk rfl rfl rfl ?_
        refine go_nil ?_
        refine go_env [(7, _), (8, _), (14, _), (15, _), (16, _)] ⟨rfl, rfl, rfl, rfl, rfl, trivial⟩ ?_
        refine go_block ?_
        refine go_loop' (X := Nat) (fun k => [(16, .int .i64 (k : Int))]) [(7, _), (8, _), (14, _), (15, _)] (fun _ => []) (fun k => k ≤ (less (fof a) (less (fof a) (fof b))).length) (fun k => (less (fof a) (less (fof a) (fof b))).length - k) (0) ⟨rfl, rfl, rfl, rfl, rfl, trivial⟩ (by repeat constructor) (by omega) ?_
        intro k hk
        refine go_seq ?_
        refine go_seq ?_
        refine go_region rfl ?_
        refine go_pure0 Tk rfl rfl rfl ?_
        refine go_pure0 Tk rfl rfl rfl ?_
        refine go_pure0 Tk rfl rfl rfl ?_
        refine go_pure0 Tk rfl rfl rfl ?_
        refine go_nil ?_
        refine go_env [(7, _), (8, _), (14, _), (15, _), (16, _), (102, _)] ⟨rfl, rfl, rfl, rfl, rfl, rfl, trivial⟩ ?_
        refine go_condD rfl ?_ ?_
        · intro hq1
          refine go_skip ?_
          refine go_seq ?_
          refine go_block ?_
          refine go_seq ?_
          refine go_elem_fa (xs := less (fof a) (less (fof a) (fof b))) (by repeat constructor) (k) (List.getElem?_eq_getElem (by omega)) (fun b0 o0 A0 c0 hA => ?_); cases hA
          have hcm := mem_common (List.getElem_mem (l := less (fof a) (less (fof a) (fof b))) (show k < _ by omega))
          refine go_region rfl ?_
          refine go_pure0 Tk rfl rfl rfl ?_
          refine go_pure0 Tk rfl rfl rfl ?_
          refine go_pure0 Tk rfl rfl rfl ?_
          refine go_val0 rfl (idx_val Tk rfl rfl rfl rfl rfl (by omega)) rfl ?_
          refine go_val0 rfl (load_val Tk rfl rfl rfl (by first | exact at_pt (by repeat constructor) (by rfl) | exact at_cl 0 (by repeat constructor) (by rfl) | exact at_cl 1 (by repeat constructor) (by rfl) | exact at_cl 2 (by repeat constructor) (by rfl) | exact at_cl 3 (by repeat constructor) (by rfl) | exact at_cl 4 (by repeat constructor) (by rfl) | exact at_cl 5 (by repeat constructor) (by rfl) | exact at_cl 6 (by repeat constructor) (by rfl) | exact at_cl 7 (by repeat constructor) (by rfl)) (by rfl)) rfl ?_
          refine go_call (relHasP bx (fof a) (less (fof a) (less (fof a) (fof b)))[k] A0 c0 Fa.r Fa.n) rfl rfl (by rfl) rfl (by repeat constructor) (by repeat constructor) (fun h => nomatch h) ?_
          rintro _ _ _ ⟨rfl, rfl, rfl⟩
          refine go_pure0 Tk rfl rfl rfl ?_
          refine go_re 111 (.bool false) (by show some (Value.bool _) = _; simp [hcm.1]) ?_
          refine go_pure0 Tk rfl rfl rfl ?_
          refine go_pure0 Tk rfl rfl rfl ?_
          refine go_pure0 Tk rfl rfl rfl ?_
          refine go_pure0 Tk rfl rfl rfl ?_
          refine go_val0 rfl (idx_val Tk rfl rfl rfl rfl rfl (by omega)) rfl ?_
          refine go_val0 rfl (load_val Tk rfl rfl rfl (by first | exact at_pt (by repeat constructor) (by rfl) | exact at_cl 0 (by repeat constructor) (by rfl) | exact at_cl 1 (by repeat constructor) (by rfl) | exact at_cl 2 (by repeat constructor) (by rfl) | exact at_cl 3 (by repeat constructor) (by rfl) | exact at_cl 4 (by repeat constructor) (by rfl) | exact at_cl 5 (by repeat constructor) (by rfl) | exact at_cl 6 (by repeat constructor) (by rfl) | exact at_cl 7 (by repeat constructor) (by rfl)) (by rfl)) rfl ?_
          refine go_call (relHasP by_ (fof b) (less (fof a) (less (fof a) (fof b)))[k] A0 c0 Fb.r Fb.n) rfl rfl (by rfl) rfl (by repeat constructor) (by repeat constructor) (fun h => nomatch h) ?_
          rintro _ _ _ ⟨rfl, rfl, rfl⟩
          refine go_pure0 Tk rfl rfl rfl ?_
          refine go_re 119 (.bool false) (by show some (Value.bool _) = _; simp [hcm.2]) ?_
          refine go_pure0 Tk rfl rfl rfl ?_
          refine go_nil ?_
          refine go_env [(7, _), (8, _), (14, _), (15, _), (16, _), (113, _), (114, _), (115, _), (116, _), (117, _), (118, _), (119, _), (120, _)] ⟨rfl, rfl, rfl, rfl, rfl, rfl, rfl, rfl, rfl, rfl, rfl, rfl, rfl, trivial⟩ ?_
          refine go_cond_f rfl ?_
          refine go_skip ?_
          refine go_blk ?_
          refine go_region rfl ?_
          refine go_pure0 Tk rfl rfl rfl ?_
          refine go_pure0 Tk rfl rfl rfl ?_
          refine go_pure0 Tk rfl rfl rfl ?_
          refine go_nil ?_
          refine go_i64 16 rfl (by omega) (by omega) ?_
          refine go_back (k + 1) ⟨rfl, rfl, rfl, rfl, rfl, trivial⟩ (by repeat constructor) (by repeat constructor) (by omega) (by omega)
        · intro hq1
          refine go_exit rfl ?_
          refine go_seq ?_
          have hlc := len_common (fof a) (fof b)
          have hFn := Fa.n
          refine go_region rfl ?_
          refine go_pure0 Tk rfl rfl rfl ?_
          refine go_call (relLenP bx (fof a)) rfl rfl (by rfl) rfl (by repeat constructor) (by repeat constructor) (fun h => nomatch h) ?_
          rintro _ _ _ ⟨rfl, rfl, rfl⟩
          refine go_pure0 Tk rfl rfl rfl ?_
          refine go_call (relLenP b7 (less (fof a) (less (fof a) (fof b)))) rfl rfl (by rfl) rfl (by repeat constructor) (by repeat constructor) (fun h => nomatch h) ?_
          rintro _ _ _ ⟨rfl, rfl, rfl⟩
          refine go_pure0 Tk rfl rfl rfl ?_
          refine go_pure0 Tk rfl rfl rfl ?_
          refine go_call (relLessN (some ⟨bx, 0, none⟩) (fof a) (some ⟨by_, 0, none⟩) (fof b) (Fb).r (Fb).n (Fa).n (Fa).b) rfl rfl (by rfl) rfl (by repeat constructor) (by repeat constructor) (fun h => nomatch h) ?_
          rintro _ _ _ ⟨b11, rfl, rfl, rfl⟩
          refine go_relD (b := b11) (by repeat constructor) ?_
          refine go_freeze_rel (b := b11) (by repeat constructor) ?_
          refine go_ent (relN (some ⟨b11, 0, none⟩) (less (fof a) (fof b))) (fun hh hps => relN_some (hps (relP b11 (less (fof a) (fof b))) (by repeat constructor))) ?_
          refine go_call (relLenP b11 (less (fof a) (fof b))) rfl rfl (by rfl) rfl (by repeat constructor) (by repeat constructor) (fun h => nomatch h) ?_
          rintro _ _ _ ⟨rfl, rfl, rfl⟩
          refine go_pure0 Tk rfl rfl rfl ?_
          refine go_i64 129 rfl (by omega) (by omega) ?_
          refine go_pure0 Tk rfl rfl rfl ?_
          refine go_re 130 (.bool true) (by show some (Value.bool _) = _; rw [decide_eq_true (by omega)]) ?_
          refine go_pure0 Tk rfl rfl rfl ?_
          refine go_call (lawWorks10) rfl rfl (by rfl) rfl (by repeat constructor) (by repeat constructor) (fun h => nomatch h) ?_
          rintro _ _ _ ⟨rfl, rfl, rfl⟩
          refine go_pure0 Tk rfl rfl rfl ?_
          refine go_pure0 Tk rfl rfl rfl ?_
          refine go_nil ?_
          refine go_env [(6, _)] ⟨rfl, trivial⟩ ?_
          refine go_ret ⟨rfl, rfl⟩ _ _ (fun a w hp ho hf hs => res1 (by rfl) (.tmp rfl) a w hp ho hf hs) ⟨rfl, rfl, rfl⟩ (by repeat constructor) (by repeat constructor)

set_option maxHeartbeats 2000000 in
set_option maxRecDepth 20000 in
theorem lawRelOrder (l : List Fa) (LA : Option Addr) (lc : Nat) (gl : ∀ x ∈ l, x.ok) (od : List Int) (OO : Option Addr) (oc : Nat) (god : ∀ x ∈ od, 0 ≤ x ∧ x < 256) :
    Spec Try.prog 8 #[.slice LA l.length lc, .slice OO od.length oc] [sl tFa LA lc l, sl (tInt .u8) OO oc od] [] (fun v Ps' Os' => v = .bool true ∧ Ps' = [] ∧ Os' = []) := by
  refine spec_of (fn := Try.f8) (args := [.slice LA l.length lc, .slice OO od.length oc]) 162 Try.func8 rfl (by kernel_rfl) Try.ntmps8 (Nat.le_of_ble_eq_true rfl) (fun w0 hp0 hf0 => ?_)
  refine go_seq ?_
  refine go_region rfl ?_
  refine go_pure0 Tk rfl rfl rfl ?_
  refine go_nil ?_
  refine go_env [(0, _), (1, _)] ⟨rfl, rfl, trivial⟩ ?_
  refine go_seq ?_
  refine go_seq ?_
  refine go_len (xs := l) (by repeat constructor) (fun ll ml => ?_)
  refine go_len (xs := od) (by repeat constructor) (fun lo mo => ?_)
  refine go_region rfl ?_
  refine go_pure0 Tk rfl rfl rfl ?_
  refine go_call (lawFew LA lc l) rfl rfl (by rfl) rfl (by repeat constructor) (by repeat constructor) (fun h => nomatch h) ?_
  rintro _ _ _ ⟨rfl, rfl, rfl⟩
  refine go_pure0 Tk rfl rfl rfl ?_
  refine go_pure0 Tk rfl rfl rfl ?_
  refine go_known 18 rfl ?_ ?_
  · intro f1
    (try simp only [decide_eq_true_eq, decide_eq_false_iff_not, Bool.not_eq_true', Bool.not_eq_false', Bool.not_eq_eq_eq_not, Bool.not_true, Bool.not_false, Int.not_lt, Int.not_le, beq_iff_eq, beq_eq_false_iff_ne, ne_eq] at f1)
    refine go_skip0 rfl rfl ?_
    refine go_skip0 rfl rfl ?_
    refine go_skip0 rfl rfl ?_
    refine go_pure0 Tk rfl rfl rfl ?_
    refine go_nil ?_
    refine go_env [(0, _), (1, _), (22, _)] ⟨rfl, rfl, rfl, trivial⟩ ?_
    refine go_cond_t rfl ?_
    refine go_seq ?_
    refine go_region rfl ?_
    refine go_call (lawWorks10) rfl rfl (by rfl) rfl (by repeat constructor) (by repeat constructor) (fun h => nomatch h) ?_
    rintro _ _ _ ⟨rfl, rfl, rfl⟩
    refine go_pure0 Tk rfl rfl rfl ?_
    refine go_nil ?_
    refine go_env [(4, _)] ⟨rfl, trivial⟩ ?_
    refine go_ret ⟨rfl, rfl⟩ _ _ (fun a w hp ho hf hs => res1 (by rfl) (.tmp rfl) a w hp ho hf hs) ⟨rfl, rfl, rfl⟩ (by repeat constructor) (by repeat constructor)
  · intro f1
    (try simp only [decide_eq_true_eq, decide_eq_false_iff_not, Bool.not_eq_true', Bool.not_eq_false', Bool.not_eq_eq_eq_not, Bool.not_true, Bool.not_false, Int.not_lt, Int.not_le, beq_iff_eq, beq_eq_false_iff_ne, ne_eq] at f1)
    refine go_pure0 Tk rfl rfl rfl ?_
    refine go_pure0 Tk rfl rfl rfl ?_
    refine go_pure0 Tk rfl rfl rfl ?_
    refine go_pure0 Tk rfl rfl rfl ?_
    refine go_nil ?_
    refine go_env [(0, _), (1, _), (22, _)] ⟨rfl, rfl, rfl, trivial⟩ ?_
    refine go_cond rfl ?_ ?_
    · intro f2
      (try simp only [decide_eq_true_eq, decide_eq_false_iff_not, Bool.not_eq_true', Bool.not_eq_false', Bool.not_eq_eq_eq_not, Bool.not_true, Bool.not_false, Int.not_lt, Int.not_le, beq_iff_eq, beq_eq_false_iff_ne, ne_eq] at f2)
      refine go_seq ?_
      refine go_region rfl ?_
      refine go_call (lawWorks10) rfl rfl (by rfl) rfl (by repeat constructor) (by repeat constructor) (fun h => nomatch h) ?_
      rintro _ _ _ ⟨rfl, rfl, rfl⟩
      refine go_pure0 Tk rfl rfl rfl ?_
      refine go_nil ?_
      refine go_env [(4, _)] ⟨rfl, trivial⟩ ?_
      refine go_ret ⟨rfl, rfl⟩ _ _ (fun a w hp ho hf hs => res1 (by rfl) (.tmp rfl) a w hp ho hf hs) ⟨rfl, rfl, rfl⟩ (by repeat constructor) (by repeat constructor)
    · intro f2
      (try simp only [decide_eq_true_eq, decide_eq_false_iff_not, Bool.not_eq_true', Bool.not_eq_false', Bool.not_eq_eq_eq_not, Bool.not_true, Bool.not_false, Int.not_lt, Int.not_le, beq_iff_eq, beq_eq_false_iff_ne, ne_eq] at f2)
      refine go_skip ?_
      refine go_seq ?_
      have fl : fewF l = true := f1
      obtain ⟨hnl, hbl⟩ := fewF_iff.1 fl
      have hNl : l.length ≤ 1000000 := by omega
      have hBl : ∀ x ∈ l, x.a.length ≤ 100000 := fun x hx => Nat.le_trans (hbl x hx) (by omega)
      have Fl : Fine (fof l) := Fine.few fl
      refine go_region rfl ?_
      refine go_pure0 Tk rfl rfl rfl ?_
      refine go_call (relOf LA lc l hNl hBl) rfl rfl (by rfl) rfl (by repeat constructor) (by repeat constructor) (fun h => nomatch h) ?_
      rintro _ _ _ ⟨ba, rfl, rfl, rfl⟩
      refine go_freeze_rel (b := ba) (by repeat constructor) ?_
      refine go_ent (relN (some ⟨ba, 0, none⟩) (fof l)) (fun hh hps => relN_some (hps (relP ba (fof l)) (by repeat constructor))) ?_
      refine go_pure0 Tk rfl rfl rfl ?_
      refine go_nil ?_
      refine go_env [(0, _), (1, _), (5, _)] ⟨rfl, rfl, rfl, trivial⟩ ?_
      refine go_seq ?_
      refine go_region rfl ?_
      refine go_call (relNew) rfl rfl (by rfl) rfl (by repeat constructor) (by repeat constructor) (fun h => nomatch h) ?_
      rintro _ _ _ ⟨bb, rfl, rfl, rfl⟩
      refine go_pure0 Tk rfl rfl rfl ?_
      refine go_nil ?_
      refine go_env [(0, _), (1, _), (5, _), (6, _)] ⟨rfl, rfl, rfl, rfl, trivial⟩ ?_
      refine go_seq ?_
      refine go_seq ?_
      refine go_region rfl ?_
      refine go_pure0 Tk rfl rfl rfl ?_
      refine go_nil ?_
      refine go_env [(0, _), (1, _), (5, _), (6, _), (7, _)] ⟨rfl, rfl, rfl, rfl, rfl, trivial⟩ ?_
      refine go_block ?_
      refine go_loop' (X := Nat × List Fa) (fun x => [(7, .int .i64 (x.1 : Int))]) [(0, _), (1, _), (5, _), (6, _)] (fun x => [relO bb x.2]) (fun x => x.1 ≤ od.length ∧ rises x.2 ∧ ∀ y ∈ x.2, y ∈ l) (fun x => od.length - x.1) ((0, [])) ⟨rfl, rfl, rfl, rfl, rfl, trivial⟩ (by repeat constructor) ⟨by omega, rises_nil, by simp⟩ ?_
      intro ⟨k, s⟩ ⟨hk, hr, hs⟩
      simp only at hk hr hs ⊢
      refine go_seq ?_
      refine go_seq ?_
      refine go_region rfl ?_
      refine go_pure0 Tk rfl rfl rfl ?_
      refine go_pure0 Tk rfl rfl rfl ?_
      refine go_pure0 Tk rfl rfl rfl ?_
      refine go_pure0 Tk rfl rfl rfl ?_
      refine go_pure0 Tk rfl rfl rfl ?_
      refine go_known 31 rfl ?_ ?_
      · intro h1
        (try simp only [decide_eq_true_eq, decide_eq_false_iff_not, Bool.not_eq_true', Bool.not_eq_false', Bool.not_eq_eq_eq_not, Bool.not_true, Bool.not_false, Int.not_lt, Int.not_le, beq_iff_eq, beq_eq_false_iff_ne, ne_eq] at h1)
        refine go_pure0 Tk rfl rfl rfl ?_
        refine go_pure0 Tk rfl rfl rfl ?_
        refine go_pure0 Tk rfl rfl rfl ?_
        refine go_pure0 Tk rfl rfl rfl ?_
        refine go_nil ?_
        refine go_env [(0, _), (1, _), (5, _), (6, _), (7, _), (32, _), (33, _), (34, _), (35, _)] ⟨rfl, rfl, rfl, rfl, rfl, rfl, rfl, rfl, rfl, trivial⟩ ?_
        refine go_cond rfl ?_ ?_
        · intro h2
          (try simp only [decide_eq_true_eq, decide_eq_false_iff_not, Bool.not_eq_true', Bool.not_eq_false', Bool.not_eq_eq_eq_not, Bool.not_true, Bool.not_false, Int.not_lt, Int.not_le, beq_iff_eq, beq_eq_false_iff_ne, ne_eq] at h2)
          refine go_skip ?_
          refine go_seq ?_
          refine go_block ?_
          have ho := god od[k] (List.getElem_mem _)
          obtain ⟨j, hj, he⟩ := rem_idx (n := l.length) ho.1 (by omega)
          have hsl := sub_len hr hs
          refine go_elem_int (xs := od) (by repeat constructor) (k) (List.getElem?_eq_getElem (by omega)) (fun b0 o0 hA => ?_); cases hA
          refine go_region rfl ?_
          refine go_pure0 Tk rfl rfl rfl ?_
          refine go_pure0 Tk rfl rfl rfl ?_
          refine go_pure0 Tk rfl rfl rfl ?_
          refine go_pure0 Tk rfl rfl rfl ?_
          refine go_val0 rfl (idx_val Tk rfl rfl rfl rfl rfl (by omega)) rfl ?_
          refine go_val0 rfl (load_val Tk rfl rfl rfl (by first | exact at_pt (by repeat constructor) (by rfl) | exact at_cl 0 (by repeat constructor) (by rfl) | exact at_cl 1 (by repeat constructor) (by rfl) | exact at_cl 2 (by repeat constructor) (by rfl) | exact at_cl 3 (by repeat constructor) (by rfl) | exact at_cl 4 (by repeat constructor) (by rfl) | exact at_cl 5 (by repeat constructor) (by rfl) | exact at_cl 6 (by repeat constructor) (by rfl) | exact at_cl 7 (by repeat constructor) (by rfl)) (by rfl)) rfl ?_
          refine go_pure0 Tk rfl rfl rfl ?_
          refine go_i64 44 rfl (by omega) (by omega) ?_
          refine go_pure0 Tk rfl rfl rfl ?_
          refine go_pure0 Tk rfl rfl rfl ?_
          refine go_val0 rfl (rem_val rfl rfl rfl (by omega)) rfl ?_
          refine go_re 47 (.int .i64 (j : Int)) (by show some (Value.int _ _) = _; rw [he]) ?_
          refine go_elem_fa (xs := l) (by repeat constructor) (j) (List.getElem?_eq_getElem (by omega)) (fun b2 o2 A2 c2 hA => ?_); cases hA
          refine go_val0 rfl (idx_val Tk rfl rfl rfl rfl rfl (by omega)) rfl ?_
          refine go_val0 rfl (load_val Tk rfl rfl rfl (by first | exact at_pt (by repeat constructor) (by rfl) | exact at_cl 0 (by repeat constructor) (by rfl) | exact at_cl 1 (by repeat constructor) (by rfl) | exact at_cl 2 (by repeat constructor) (by rfl) | exact at_cl 3 (by repeat constructor) (by rfl) | exact at_cl 4 (by repeat constructor) (by rfl) | exact at_cl 5 (by repeat constructor) (by rfl) | exact at_cl 6 (by repeat constructor) (by rfl) | exact at_cl 7 (by repeat constructor) (by rfl)) (by rfl)) rfl ?_
          refine go_call (relPut bb s l[j] A2 c2 hr (by omega) (hBl _ (List.getElem_mem _))) rfl rfl (by rfl) rfl (by repeat constructor) (by repeat constructor) (fun h => nomatch h) ?_
          rintro _ _ _ ⟨rfl, rfl, rfl⟩
          refine go_nil ?_
          refine go_env [(0, _), (1, _), (5, _), (6, _), (7, _), (32, _), (33, _), (34, _)] ⟨rfl, rfl, rfl, rfl, rfl, rfl, rfl, rfl, trivial⟩ ?_
          refine go_blk ?_
          refine go_region rfl ?_
          refine go_pure0 Tk rfl rfl rfl ?_
          refine go_pure0 Tk rfl rfl rfl ?_
          refine go_pure0 Tk rfl rfl rfl ?_
          refine go_nil ?_
          refine go_i64 7 rfl (by omega) (by omega) ?_
          refine go_back (k + 1, fput s l[j]) ⟨rfl, rfl, rfl, rfl, rfl, trivial⟩ (by repeat constructor) (by repeat constructor) ⟨by show k + 1 ≤ _; omega, rises_fput hr _, fun y hy => (mem_fput.1 hy).elim (fun e => e ▸ List.getElem_mem _) (hs y)⟩ (by show od.length - (k + 1) < od.length - k; omega)
        · intro h2
          (try simp only [decide_eq_true_eq, decide_eq_false_iff_not, Bool.not_eq_true', Bool.not_eq_false', Bool.not_eq_eq_eq_not, Bool.not_true, Bool.not_false, Int.not_lt, Int.not_le, beq_iff_eq, beq_eq_false_iff_ne, ne_eq] at h2)
          refine go_exit rfl ?_
          refine go_seq ?_
          refine go_seq ?_
          refine go_region rfl ?_
          refine go_pure0 Tk rfl rfl rfl ?_
          refine go_pure0 Tk rfl rfl rfl ?_
          refine go_pure0 Tk rfl rfl rfl ?_
          refine go_i64 53 rfl (by omega) (by omega) ?_
          refine go_pure0 Tk rfl rfl rfl ?_
          refine go_nil ?_
          refine go_env [(0, _), (5, _), (6, _), (8, _)] ⟨rfl, rfl, rfl, rfl, trivial⟩ ?_
          refine go_block ?_
          refine go_loop' (X := Nat × List Fa) (fun x => [(8, .int .i64 ((x.1 : Int) - 1))]) [(0, _), (5, _), (6, _)] (fun x => [relO bb x.2]) (fun x => x.1 ≤ l.length ∧ rises x.2 ∧ (∀ y ∈ x.2, y ∈ l) ∧ ∀ y ∈ l.drop x.1, y ∈ x.2) (fun x => x.1) ((l.length, s)) ⟨rfl, rfl, rfl, rfl, trivial⟩ (by repeat constructor) ⟨by omega, hr, hs, by simp⟩ ?_
          intro ⟨j, s⟩ ⟨hj, hr, hs, hd⟩
          simp only at hj hr hs hd ⊢
          refine go_seq ?_
          refine go_seq ?_
          refine go_region rfl ?_
          refine go_pure0 Tk rfl rfl rfl ?_
          refine go_pure0 Tk rfl rfl rfl ?_
          refine go_nil ?_
          refine go_env [(0, _), (5, _), (6, _), (8, _), (55, _)] ⟨rfl, rfl, rfl, rfl, rfl, trivial⟩ ?_
          refine go_condD rfl ?_ ?_
          · intro hq1
            refine go_skip ?_
            refine go_seq ?_
            refine go_block ?_
            refine go_seq ?_
            have hsl := sub_len hr hs
            have hfl := fput_len s l[j - 1]
            refine go_elem_fa (xs := l) (by repeat constructor) (j - 1) (List.getElem?_eq_getElem (by omega)) (fun b2 o2 A2 c2 hA => ?_); cases hA
            refine go_region rfl ?_
            refine go_pure0 Tk rfl rfl rfl ?_
            refine go_pure0 Tk rfl rfl rfl ?_
            refine go_pure0 Tk rfl rfl rfl ?_
            refine go_re 60 (.int .i64 ((j - 1 : Nat) : Int)) (by show some (Value.int _ _) = _; rw [show ((j - 1 : Nat) : Int) = (j : Int) - 1 by omega]) ?_
            refine go_val0 rfl (idx_val Tk rfl rfl rfl rfl rfl (by omega)) rfl ?_
            refine go_val0 rfl (load_val Tk rfl rfl rfl (by first | exact at_pt (by repeat constructor) (by rfl) | exact at_cl 0 (by repeat constructor) (by rfl) | exact at_cl 1 (by repeat constructor) (by rfl) | exact at_cl 2 (by repeat constructor) (by rfl) | exact at_cl 3 (by repeat constructor) (by rfl) | exact at_cl 4 (by repeat constructor) (by rfl) | exact at_cl 5 (by repeat constructor) (by rfl) | exact at_cl 6 (by repeat constructor) (by rfl) | exact at_cl 7 (by repeat constructor) (by rfl)) (by rfl)) rfl ?_
            refine go_call (relPut bb s l[j - 1] A2 c2 hr (by omega) (hBl _ (List.getElem_mem _))) rfl rfl (by rfl) rfl (by repeat constructor) (by repeat constructor) (fun h => nomatch h) ?_
            rintro _ _ _ ⟨rfl, rfl, rfl⟩
            refine go_nil ?_
            refine go_env [(0, _), (5, _), (6, _), (8, _)] ⟨rfl, rfl, rfl, rfl, trivial⟩ ?_
            refine go_region rfl ?_
            refine go_pure0 Tk rfl rfl rfl ?_
            refine go_pure0 Tk rfl rfl rfl ?_
            refine go_pure0 Tk rfl rfl rfl ?_
            refine go_re 66 (.int .i64 ((j - 1 : Nat) : Int)) (by show some (Value.int _ _) = _; rw [show ((j - 1 : Nat) : Int) = (j : Int) - 1 by omega]) ?_
            refine go_val0 rfl (idx_val Tk rfl rfl rfl rfl rfl (by omega)) rfl ?_
            refine go_val0 rfl (load_val Tk rfl rfl rfl (by first | exact at_pt (by repeat constructor) (by rfl) | exact at_cl 0 (by repeat constructor) (by rfl) | exact at_cl 1 (by repeat constructor) (by rfl) | exact at_cl 2 (by repeat constructor) (by rfl) | exact at_cl 3 (by repeat constructor) (by rfl) | exact at_cl 4 (by repeat constructor) (by rfl) | exact at_cl 5 (by repeat constructor) (by rfl) | exact at_cl 6 (by repeat constructor) (by rfl) | exact at_cl 7 (by repeat constructor) (by rfl)) (by rfl)) rfl ?_
            refine go_call (relPut bb (fput s l[j - 1]) l[j - 1] A2 c2 (rises_fput hr _) (by omega) (hBl _ (List.getElem_mem _))) rfl rfl (by rfl) rfl (by repeat constructor) (by repeat constructor) (fun h => nomatch h) ?_
            rintro _ _ _ ⟨rfl, rfl, rfl⟩
            refine go_nil ?_
            refine go_env [(0, _), (5, _), (6, _), (8, _)] ⟨rfl, rfl, rfl, rfl, trivial⟩ ?_
            refine go_blk ?_
            refine go_region rfl ?_
            refine go_pure0 Tk rfl rfl rfl ?_
            refine go_pure0 Tk rfl rfl rfl ?_
            refine go_pure0 Tk rfl rfl rfl ?_
            refine go_nil ?_
            refine go_i64 8 rfl (by omega) (by omega) ?_
            refine go_re 8 (.int .i64 (((j - 1 : Nat) : Int) - 1)) (by show some (Value.int _ _) = _; rw [show ((j - 1 : Nat) : Int) = (j : Int) - 1 by omega]) ?_
            refine go_back (j - 1, fput (fput s l[j - 1]) l[j - 1]) ⟨rfl, rfl, rfl, rfl, trivial⟩ (by repeat constructor) (by repeat constructor) ⟨by show j - 1 ≤ _; omega, rises_fput (rises_fput hr _) _, fun y hy => (mem_fput.1 hy).elim (fun e => e ▸ List.getElem_mem _) (fun hy => (mem_fput.1 hy).elim (fun e => e ▸ List.getElem_mem _) (hs y)), drop_in (by omega) (by omega) hd⟩ (by show j - 1 < j; omega)
          · intro hq1
            refine go_exit rfl ?_
            refine go_seq ?_
            obtain rfl : j = 0 := by omega
            obtain rfl : s = fof l := fof_all hr hs (fun y hy => hd y (by simpa using hy))
            refine go_freeze_rel (b := bb) (by repeat constructor) ?_
            refine go_ent (relN (some ⟨bb, 0, none⟩) (fof l)) (fun hh hps => relN_some (hps (relP bb (fof l)) (by repeat constructor))) ?_
            refine go_region rfl ?_
            refine go_pure0 Tk rfl rfl rfl ?_
            refine go_call (relListN (some ⟨ba, 0, none⟩) (fof l) (Fl).n (Fl).b) rfl rfl (by rfl) rfl (by repeat constructor) (by repeat constructor) (fun h => nomatch h) ?_
            rintro _ _ _ ⟨A1, c1, rfl, rfl, rfl⟩
            refine go_freeze_dl (T := tFa) (A := A1) (by repeat constructor) ?_
            refine go_pure0 Tk rfl rfl rfl ?_
            refine go_nil ?_
            refine go_env [(0, _), (5, _), (6, _), (9, _)] ⟨rfl, rfl, rfl, rfl, trivial⟩ ?_
            refine go_seq ?_
            refine go_seq ?_
            refine go_region rfl ?_
            refine go_pure0 Tk rfl rfl rfl ?_
            refine go_pure0 Tk rfl rfl rfl ?_
            refine go_call (relListN (some ⟨bb, 0, none⟩) (fof l) (Fl).n (Fl).b) rfl rfl (by rfl) rfl (by repeat constructor) (by repeat constructor) (fun h => nomatch h) ?_
            rintro _ _ _ ⟨A3, c3, rfl, rfl, rfl⟩
            refine go_freeze_dl (T := tFa) (A := A3) (by repeat constructor) ?_
            refine go_call (refSame A1 c1 (fof l) A3 c3 (fof l)) rfl rfl (by rfl) rfl (by repeat constructor) (by repeat constructor) (fun h => nomatch h) ?_
            rintro _ _ _ ⟨rfl, rfl, rfl⟩
            refine go_pure0 Tk rfl rfl rfl ?_
            refine go_re 76 (.bool false) (by show some (Value.bool _) = _; first | rfl | simp) ?_
            refine go_pure0 Tk rfl rfl rfl ?_
            refine go_pure0 Tk rfl rfl rfl ?_
            refine go_call (relLenP ba (fof l)) rfl rfl (by rfl) rfl (by repeat constructor) (by repeat constructor) (fun h => nomatch h) ?_
            rintro _ _ _ ⟨rfl, rfl, rfl⟩
            refine go_pure0 Tk rfl rfl rfl ?_
            refine go_pure0 Tk rfl rfl rfl ?_
            refine go_pure0 Tk rfl rfl rfl ?_
            refine go_re 82 (.bool false) (by show some (Value.bool _) = _; first | rfl | simp) ?_
            refine go_pure0 Tk rfl rfl rfl ?_
            refine go_nil ?_
            refine go_env [(0, _), (5, _), (9, _), (83, _)] ⟨rfl, rfl, rfl, rfl, trivial⟩ ?_
            refine go_cond_f rfl ?_
            refine go_skip ?_
            refine go_seq ?_
            refine go_seq ?_
            refine go_len (xs := fof l) (by repeat constructor) (fun lx mx => ?_)
            refine go_region rfl ?_
            refine go_pure0 Tk rfl rfl rfl ?_
            refine go_nil ?_
            refine go_env [(0, _), (5, _), (9, _), (10, _)] ⟨rfl, rfl, rfl, rfl, trivial⟩ ?_
            refine go_block ?_
            refine go_loop' (X := Nat) (fun k => [(10, .int .i64 (k : Int))]) [(0, _), (5, _), (9, _)] (fun _ => []) (fun k => k ≤ (fof l).length) (fun k => (fof l).length - k) (0) ⟨rfl, rfl, rfl, rfl, trivial⟩ (by repeat constructor) (by omega) ?_
            intro k hk
            refine go_seq ?_
            refine go_seq ?_
            refine go_region rfl ?_
            refine go_pure0 Tk rfl rfl rfl ?_
            refine go_pure0 Tk rfl rfl rfl ?_
            refine go_pure0 Tk rfl rfl rfl ?_
            refine go_pure0 Tk rfl rfl rfl ?_
            refine go_nil ?_
            refine go_env [(0, _), (5, _), (9, _), (10, _), (87, _)] ⟨rfl, rfl, rfl, rfl, rfl, trivial⟩ ?_
            refine go_condD rfl ?_ ?_
            · intro hq2
              refine go_skip ?_
              refine go_seq ?_
              refine go_block ?_
              refine go_seq ?_
              refine go_seq ?_
              by_cases hk0 : 0 < k
              · skip
                refine go_elem_fa (xs := fof l) (c := c1) (by repeat constructor) (k - 1) (List.getElem?_eq_getElem (by omega)) (fun b4 o4 A4 c4 hA => ?_); cases hA
                refine go_elem_fa (xs := fof l) (c := c1) (by repeat constructor) (k) (List.getElem?_eq_getElem (by omega)) (fun b5 o5 A5 c5 hA => ?_); cases hA
                have hcr : cmpF (fof l)[k - 1].p (fof l)[k - 1].a (fof l)[k].p (fof l)[k].a < 0 := rises_at (rises_fof l) (by omega) (by omega)
                refine go_draw'  [7, 11] (SL.pre [(1, 0), (1, 1), (1, 2), (1, 3), (1, 4), (1, 5), (1, 6), (1, 8), (1, 9), (1, 10), (2, 7), (2, 11), (0, 12), (1, 13), (1, 14)] .nil) mixed rfl (by kernel_rfl) ?_
                refine go_pure1 Tk rfl rfl rfl ?_
                refine go_pure1 Tk rfl rfl rfl ?_
                refine go_re 91 (.bool true) (by show some _ = _; rw [decide_eq_true (by omega)]) ?_
                refine go_pure1 Tk rfl rfl rfl ?_
                refine go_pure1 Tk rfl rfl rfl ?_
                refine go_pure1 Tk rfl rfl rfl ?_
                refine go_pure1 Tk rfl rfl rfl ?_
                refine go_i64 95 rfl (by omega) (by omega) ?_
                refine go_re 95 (.int .i64 ((k - 1 : Nat) : Int)) (by show some (Value.int _ _) = _; rw [show ((k - 1 : Nat) : Int) = (k : Int) - 1 by omega]) ?_
                refine go_val1 rfl (idx_val Tk rfl rfl rfl rfl rfl (by omega)) rfl ?_
                refine go_pure1 Tk rfl rfl rfl ?_
                refine go_pure1 Tk rfl rfl rfl ?_
                refine go_val1 rfl (idx_val Tk rfl rfl rfl rfl rfl (by omega)) rfl ?_
                refine go_val2 rfl (load_val Tk rfl rfl rfl (by first | exact at_pt (by repeat constructor) (by rfl) | exact at_cl 0 (by repeat constructor) (by rfl) | exact at_cl 1 (by repeat constructor) (by rfl) | exact at_cl 2 (by repeat constructor) (by rfl) | exact at_cl 3 (by repeat constructor) (by rfl) | exact at_cl 4 (by repeat constructor) (by rfl) | exact at_cl 5 (by repeat constructor) (by rfl) | exact at_cl 6 (by repeat constructor) (by rfl) | exact at_cl 7 (by repeat constructor) (by rfl)) (by rfl)) (by repeat constructor) (by repeat constructor) rfl ?_
                refine go_val2 rfl (load_val Tk rfl rfl rfl (by first | exact at_pt (by repeat constructor) (by rfl) | exact at_cl 0 (by repeat constructor) (by rfl) | exact at_cl 1 (by repeat constructor) (by rfl) | exact at_cl 2 (by repeat constructor) (by rfl) | exact at_cl 3 (by repeat constructor) (by rfl) | exact at_cl 4 (by repeat constructor) (by rfl) | exact at_cl 5 (by repeat constructor) (by rfl) | exact at_cl 6 (by repeat constructor) (by rfl) | exact at_cl 7 (by repeat constructor) (by rfl)) (by rfl)) (by repeat constructor) (by repeat constructor) rfl ?_
                refine go_call (refCompare _ _ _ _ _ _ _ _) rfl rfl (by rfl) rfl (by repeat constructor) (by repeat constructor) (fun h => nomatch h) ?_
                rintro _ _ _ ⟨rfl, rfl, rfl⟩
                refine go_pure1 Tk rfl rfl rfl ?_
                refine go_re 103 (.bool false) (by show some (Value.bool _) = _; rw [decide_eq_false (by omega)]) ?_
                refine go_pure1 Tk rfl rfl rfl ?_
                refine go_nil ?_
                refine go_env [(0, _), (5, _), (9, _), (10, _), (93, _), (94, _), (95, _), (96, _), (97, _), (98, _), (99, _), (100, _), (101, _), (102, _), (103, _), (104, _)] ⟨rfl, rfl, rfl, rfl, rfl, rfl, rfl, rfl, rfl, rfl, rfl, rfl, rfl, rfl, rfl, rfl, trivial⟩ ?_
                refine go_cond_f rfl ?_
                refine go_skip ?_
                refine go_seq ?_
                have hxf : (fof l)[k] ∈ fof l := List.getElem_mem _
                have hxl : (fof l)[k] ∈ l := mem_fof.1 hxf
                refine go_region rfl ?_
                refine go_pure0 Tk rfl rfl rfl ?_
                refine go_re 11 (.bool (decide ((fof l)[k] ∈ l.take 0))) (by show some (Value.bool false) = _; simp) ?_
                refine go_nil ?_
                refine go_env [(0, _), (5, _), (9, _), (10, _), (11, _), (93, _), (94, _), (95, _), (96, _), (97, _), (98, _), (99, _), (100, _), (101, _), (102, _), (103, _)] ⟨rfl, rfl, rfl, rfl, rfl, rfl, rfl, rfl, rfl, rfl, rfl, rfl, rfl, rfl, rfl, rfl, trivial⟩ ?_
                refine go_seq ?_
                refine go_seq ?_
                refine go_region rfl ?_
                refine go_pure0 Tk rfl rfl rfl ?_
                refine go_nil ?_
                refine go_env [(0, _), (5, _), (9, _), (10, _), (11, _), (12, _), (93, _), (94, _), (95, _), (96, _), (97, _), (98, _), (99, _), (100, _), (101, _), (102, _), (103, _)] ⟨rfl, rfl, rfl, rfl, rfl, rfl, rfl, rfl, rfl, rfl, rfl, rfl, rfl, rfl, rfl, rfl, rfl, trivial⟩ ?_
                refine go_block ?_
                refine go_loop' (X := Nat) (fun j => [(11, .bool (decide ((fof l)[k] ∈ l.take j))), (12, .int .i64 (j : Int))]) [(0, _), (5, _), (9, _), (10, _), (93, _), (94, _), (95, _), (96, _), (97, _), (98, _), (99, _), (100, _), (101, _), (102, _), (103, _)] (fun _ => []) (fun j => j ≤ l.length) (fun j => l.length - j) (0) ⟨rfl, rfl, rfl, rfl, rfl, rfl, rfl, rfl, rfl, rfl, rfl, rfl, rfl, rfl, rfl, rfl, rfl, trivial⟩ (by repeat constructor) (by omega) ?_
                intro j hj
                refine go_seq ?_
                refine go_seq ?_
                refine go_region rfl ?_
                refine go_pure0 Tk rfl rfl rfl ?_
                refine go_pure0 Tk rfl rfl rfl ?_
                refine go_pure0 Tk rfl rfl rfl ?_
                refine go_pure0 Tk rfl rfl rfl ?_
                refine go_nil ?_
                refine go_env [(0, _), (5, _), (9, _), (10, _), (11, _), (12, _), (93, _), (94, _), (95, _), (96, _), (97, _), (98, _), (99, _), (100, _), (101, _), (102, _), (103, _), (108, _)] ⟨rfl, rfl, rfl, rfl, rfl, rfl, rfl, rfl, rfl, rfl, rfl, rfl, rfl, rfl, rfl, rfl, rfl, rfl, trivial⟩ ?_
                refine go_condD rfl ?_ ?_
                · intro hq3
                  refine go_skip ?_
                  refine go_seq ?_
                  refine go_block ?_
                  refine go_elem_fa (xs := l) (by repeat constructor) (j) (List.getElem?_eq_getElem (by omega)) (fun b6 o6 A6 c6 hA => ?_); cases hA
                  refine go_draw'  [5, 9] (SL.pre [(1, 0), (1, 1), (1, 2), (1, 3), (1, 4), (1, 6), (1, 7), (1, 8), (2, 5), (2, 9), (0, 10), (1, 11), (1, 12)] .nil) mixed rfl (by kernel_rfl) ?_
                  refine go_pure1 Tk rfl rfl rfl ?_
                  refine go_pure1 Tk rfl rfl rfl ?_
                  refine go_known 112 rfl ?_ ?_
                  · intro g5
                    (try simp only [decide_eq_true_eq, decide_eq_false_iff_not, Bool.not_eq_true', Bool.not_eq_false', Bool.not_eq_eq_eq_not, Bool.not_true, Bool.not_false, Int.not_lt, Int.not_le, beq_iff_eq, beq_eq_false_iff_ne, ne_eq] at g5)
                    refine go_skip1 rfl rfl ?_
                    refine go_skip1 rfl rfl ?_
                    refine go_skip1 rfl rfl ?_
                    refine go_skip1 rfl rfl ?_
                    refine go_skip1 rfl rfl ?_
                    refine go_skip1 rfl rfl ?_
                    refine go_skip2 rfl (by repeat constructor) (by repeat constructor) rfl ?_
                    refine go_skip2 rfl (by repeat constructor) (by repeat constructor) rfl ?_
                    refine go_skip0 rfl rfl ?_
                    refine go_pure1 Tk rfl rfl rfl ?_
                    refine go_pure1 Tk rfl rfl rfl ?_
                    refine go_nil ?_
                    refine go_env [(0, _), (5, _), (9, _), (10, _), (11, _), (12, _), (93, _), (94, _), (95, _), (96, _), (97, _), (98, _), (99, _), (100, _), (101, _), (102, _), (103, _), (113, _), (114, _), (115, _), (116, _), (117, _), (118, _), (119, _), (120, _), (121, _)] ⟨rfl, rfl, rfl, rfl, rfl, rfl, rfl, rfl, rfl, rfl, rfl, rfl, rfl, rfl, rfl, rfl, rfl, rfl, rfl, rfl, rfl, rfl, rfl, rfl, rfl, rfl, trivial⟩ ?_
                    refine go_blk ?_
                    refine go_region rfl ?_
                    refine go_pure0 Tk rfl rfl rfl ?_
                    refine go_pure0 Tk rfl rfl rfl ?_
                    refine go_pure0 Tk rfl rfl rfl ?_
                    refine go_nil ?_
                    refine go_i64 12 rfl (by omega) (by omega) ?_
                    refine go_re 11 (.bool (decide ((fof l)[k] ∈ l.take (j + 1)))) (by show some (Value.bool _) = _; first | rw [in_next_yes g5] | rw [in_next_no (by omega) g5]) ?_
                    refine go_back (j + 1) ⟨rfl, rfl, rfl, rfl, rfl, rfl, rfl, rfl, rfl, rfl, rfl, rfl, rfl, rfl, rfl, rfl, rfl, trivial⟩ (by repeat constructor) (by repeat constructor) (by omega) (by omega)
                  · intro g5
                    (try simp only [decide_eq_true_eq, decide_eq_false_iff_not, Bool.not_eq_true', Bool.not_eq_false', Bool.not_eq_eq_eq_not, Bool.not_true, Bool.not_false, Int.not_lt, Int.not_le, beq_iff_eq, beq_eq_false_iff_ne, ne_eq] at g5)
                    refine go_pure1 Tk rfl rfl rfl ?_
                    refine go_pure1 Tk rfl rfl rfl ?_
                    refine go_val1 rfl (idx_val Tk rfl rfl rfl rfl rfl (by omega)) rfl ?_
                    refine go_pure1 Tk rfl rfl rfl ?_
                    refine go_pure1 Tk rfl rfl rfl ?_
                    refine go_val1 rfl (idx_val Tk rfl rfl rfl rfl rfl (by omega)) rfl ?_
                    refine go_val2 rfl (load_val Tk rfl rfl rfl (by first | exact at_pt (by repeat constructor) (by rfl) | exact at_cl 0 (by repeat constructor) (by rfl) | exact at_cl 1 (by repeat constructor) (by rfl) | exact at_cl 2 (by repeat constructor) (by rfl) | exact at_cl 3 (by repeat constructor) (by rfl) | exact at_cl 4 (by repeat constructor) (by rfl) | exact at_cl 5 (by repeat constructor) (by rfl) | exact at_cl 6 (by repeat constructor) (by rfl) | exact at_cl 7 (by repeat constructor) (by rfl)) (by rfl)) (by repeat constructor) (by repeat constructor) rfl ?_
                    refine go_val2 rfl (load_val Tk rfl rfl rfl (by first | exact at_pt (by repeat constructor) (by rfl) | exact at_cl 0 (by repeat constructor) (by rfl) | exact at_cl 1 (by repeat constructor) (by rfl) | exact at_cl 2 (by repeat constructor) (by rfl) | exact at_cl 3 (by repeat constructor) (by rfl) | exact at_cl 4 (by repeat constructor) (by rfl) | exact at_cl 5 (by repeat constructor) (by rfl) | exact at_cl 6 (by repeat constructor) (by rfl) | exact at_cl 7 (by repeat constructor) (by rfl)) (by rfl)) (by repeat constructor) (by repeat constructor) rfl ?_
                    refine go_call (refSameFact _ _ _ _ _ _ _ _) rfl rfl (by rfl) rfl (by repeat constructor) (by repeat constructor) (fun h => nomatch h) ?_
                    rintro _ _ _ ⟨rfl, rfl, rfl⟩
                    refine go_pure1 Tk rfl rfl rfl ?_
                    refine go_pure1 Tk rfl rfl rfl ?_
                    refine go_nil ?_
                    refine go_env [(0, _), (5, _), (9, _), (10, _), (11, _), (12, _), (93, _), (94, _), (95, _), (96, _), (97, _), (98, _), (99, _), (100, _), (101, _), (102, _), (103, _), (113, _), (114, _), (115, _), (116, _), (117, _), (118, _), (119, _), (120, _), (121, _)] ⟨rfl, rfl, rfl, rfl, rfl, rfl, rfl, rfl, rfl, rfl, rfl, rfl, rfl, rfl, rfl, rfl, rfl, rfl, rfl, rfl, rfl, rfl, rfl, rfl, rfl, rfl, trivial⟩ ?_
                    refine go_blk ?_
                    refine go_region rfl ?_
                    refine go_pure0 Tk rfl rfl rfl ?_
                    refine go_pure0 Tk rfl rfl rfl ?_
                    refine go_pure0 Tk rfl rfl rfl ?_
                    refine go_nil ?_
                    refine go_i64 12 rfl (by omega) (by omega) ?_
                    refine go_re 11 (.bool (decide ((fof l)[k] ∈ l.take (j + 1)))) (by show some (Value.bool _) = _; first | rw [in_next_yes g5] | rw [in_next_no (by omega) g5]) ?_
                    refine go_back (j + 1) ⟨rfl, rfl, rfl, rfl, rfl, rfl, rfl, rfl, rfl, rfl, rfl, rfl, rfl, rfl, rfl, rfl, rfl, trivial⟩ (by repeat constructor) (by repeat constructor) (by omega) (by omega)
                · intro hq3
                  refine go_exit rfl ?_
                  refine go_seq ?_
                  refine go_re 11 (.bool true) (by show some (Value.bool _) = _; rw [List.take_of_length_le (show l.length ≤ j by omega), decide_eq_true hxl]) ?_
                  refine go_region rfl ?_
                  refine go_pure0 Tk rfl rfl rfl ?_
                  refine go_pure0 Tk rfl rfl rfl ?_
                  refine go_pure0 Tk rfl rfl rfl ?_
                  refine go_val0 rfl (idx_val Tk rfl rfl rfl rfl rfl (by omega)) rfl ?_
                  refine go_val0 rfl (load_val Tk rfl rfl rfl (by first | exact at_pt (by repeat constructor) (by rfl) | exact at_cl 0 (by repeat constructor) (by rfl) | exact at_cl 1 (by repeat constructor) (by rfl) | exact at_cl 2 (by repeat constructor) (by rfl) | exact at_cl 3 (by repeat constructor) (by rfl) | exact at_cl 4 (by repeat constructor) (by rfl) | exact at_cl 5 (by repeat constructor) (by rfl) | exact at_cl 6 (by repeat constructor) (by rfl) | exact at_cl 7 (by repeat constructor) (by rfl)) (by rfl)) rfl ?_
                  refine go_call (refLift (fof l)[k] A5 c5 (hBl _ hxl)) rfl rfl (by rfl) rfl (by repeat constructor) (by repeat constructor) (fun h => nomatch h) ?_
                  rintro _ _ _ ⟨A7, c7, rfl, rfl, rfl⟩
                  refine go_call (relFindN (some ⟨ba, 0, none⟩) (fof l) (lift (fof l)[k]) A7 c7 (lift_ok (gl _ hxl)) (by rw [lift_len]; exact Nat.le_trans (hBl _ hxl) (by omega)) Fl.n Fl.b) rfl rfl (by rfl) rfl (by repeat constructor) (by repeat constructor) (fun h => nomatch h) ?_
                  rintro _ _ _ ⟨A8, c8, rfl, rfl, rfl⟩
                  rw [find_lift (rises_fof l) hxf]
                  refine go_freeze_dl (T := tFa) (A := A8) (by repeat constructor) ?_
                  refine go_pure0 Tk rfl rfl rfl ?_
                  refine go_nil ?_
                  refine go_env [(0, _), (5, _), (9, _), (10, _), (11, _), (13, _), (93, _), (94, _), (95, _), (96, _), (97, _), (98, _), (99, _), (100, _), (101, _), (102, _), (103, _)] ⟨rfl, rfl, rfl, rfl, rfl, rfl, rfl, rfl, rfl, rfl, rfl, rfl, rfl, rfl, rfl, rfl, rfl, trivial⟩ ?_
                  refine go_seq ?_
                  refine go_elem_fa (xs := [(fof l)[k]]) (by repeat constructor) (0) (List.getElem?_eq_getElem (by simp)) (fun b9 o9 A9 c9 hA => ?_); cases hA
                  refine go_draw'  [10, 14] (SL.pre [(1, 0), (1, 1), (1, 2), (1, 3), (1, 4), (1, 5), (1, 6), (1, 7), (1, 8), (1, 9), (1, 11), (1, 12), (1, 13), (2, 10), (2, 14), (0, 15), (1, 16), (1, 17)] .nil) mixed rfl (by kernel_rfl) ?_
                  refine go_pure1 Tk rfl rfl rfl ?_
                  refine go_re 130 (.bool true) (by show some (Value.bool _) = _; rfl) ?_
                  refine go_pure1 Tk rfl rfl rfl ?_
                  refine go_pure1 Tk rfl rfl rfl ?_
                  refine go_pure1 Tk rfl rfl rfl ?_
                  refine go_pure1 Tk rfl rfl rfl ?_
                  refine go_pure1 Tk rfl rfl rfl ?_
                  refine go_re 135 (.bool false) (by show some (Value.bool _) = _; first | rfl | simp) ?_
                  refine go_pure1 Tk rfl rfl rfl ?_
                  refine go_pure1 Tk rfl rfl rfl ?_
                  refine go_pure1 Tk rfl rfl rfl ?_
                  refine go_val1 rfl (idx_val Tk rfl rfl rfl rfl rfl (by simp)) rfl ?_
                  refine go_pure1 Tk rfl rfl rfl ?_
                  refine go_pure1 Tk rfl rfl rfl ?_
                  refine go_val1 rfl (idx_val Tk rfl rfl rfl rfl rfl (by omega)) rfl ?_
                  refine go_val2 rfl (load_val Tk rfl rfl rfl (by first | exact at_pt (by repeat constructor) (by rfl) | exact at_cl 0 (by repeat constructor) (by rfl) | exact at_cl 1 (by repeat constructor) (by rfl) | exact at_cl 2 (by repeat constructor) (by rfl) | exact at_cl 3 (by repeat constructor) (by rfl) | exact at_cl 4 (by repeat constructor) (by rfl) | exact at_cl 5 (by repeat constructor) (by rfl) | exact at_cl 6 (by repeat constructor) (by rfl) | exact at_cl 7 (by repeat constructor) (by rfl)) (by rfl)) (by repeat constructor) (by repeat constructor) rfl ?_
                  refine go_val2 rfl (load_val Tk rfl rfl rfl (by first | exact at_pt (by repeat constructor) (by rfl) | exact at_cl 0 (by repeat constructor) (by rfl) | exact at_cl 1 (by repeat constructor) (by rfl) | exact at_cl 2 (by repeat constructor) (by rfl) | exact at_cl 3 (by repeat constructor) (by rfl) | exact at_cl 4 (by repeat constructor) (by rfl) | exact at_cl 5 (by repeat constructor) (by rfl) | exact at_cl 6 (by repeat constructor) (by rfl) | exact at_cl 7 (by repeat constructor) (by rfl)) (by rfl)) (by repeat constructor) (by repeat constructor) rfl ?_
                  refine go_call (refSameFact _ _ _ _ _ _ _ _) rfl rfl (by rfl) rfl (by repeat constructor) (by repeat constructor) (fun h => nomatch h) ?_
                  rintro _ _ _ ⟨rfl, rfl, rfl⟩
                  refine go_pure1 Tk rfl rfl rfl ?_
                  refine go_re 146 (.bool false) (by show some (Value.bool _) = _; simp [cmpF_self]) ?_
                  refine go_pure1 Tk rfl rfl rfl ?_
                  refine go_nil ?_
                  refine go_env [(0, _), (5, _), (9, _), (10, _), (93, _), (94, _), (95, _), (96, _), (97, _), (98, _), (99, _), (100, _), (101, _), (102, _), (103, _), (133, _), (134, _), (135, _), (138, _), (139, _), (140, _), (141, _), (142, _), (143, _), (144, _), (145, _), (146, _), (147, _)] ⟨rfl, rfl, rfl, rfl, rfl, rfl, rfl, rfl, rfl, rfl, rfl, rfl, rfl, rfl, rfl, rfl, rfl, rfl, rfl, rfl, rfl, rfl, rfl, rfl, rfl, rfl, rfl, rfl, trivial⟩ ?_
                  refine go_cond_f rfl ?_
                  refine go_skip ?_
                  refine go_blk ?_
                  refine go_region rfl ?_
                  refine go_pure0 Tk rfl rfl rfl ?_
                  refine go_pure0 Tk rfl rfl rfl ?_
                  refine go_pure0 Tk rfl rfl rfl ?_
                  refine go_nil ?_
                  refine go_i64 10 rfl (by omega) (by omega) ?_
                  refine go_back (k + 1) ⟨rfl, rfl, rfl, rfl, trivial⟩ (by repeat constructor) (by repeat constructor) (by omega) (by omega)
              · skip
                refine go_elem_fa (xs := fof l) (c := c1) (by repeat constructor) (k) (List.getElem?_eq_getElem (by omega)) (fun b5 o5 A5 c5 hA => ?_); cases hA
                refine go_draw'  [7, 11] (SL.pre [(1, 0), (1, 1), (1, 2), (1, 3), (1, 4), (1, 5), (1, 6), (1, 8), (1, 9), (1, 10), (2, 7), (2, 11), (0, 12), (1, 13), (1, 14)] .nil) mixed rfl (by kernel_rfl) ?_
                refine go_pure1 Tk rfl rfl rfl ?_
                refine go_pure1 Tk rfl rfl rfl ?_
                refine go_re 91 (.bool false) (by show some _ = _; rw [decide_eq_false (by omega)]) ?_
                refine go_pure1 Tk rfl rfl rfl ?_
                refine go_skip1 rfl rfl ?_
                refine go_skip1 rfl rfl ?_
                refine go_skip1 rfl rfl ?_
                refine go_skip1 rfl rfl ?_
                refine go_skip1 rfl rfl ?_
                refine go_skip1 rfl rfl ?_
                refine go_skip1 rfl rfl ?_
                refine go_skip2 rfl (by repeat constructor) (by repeat constructor) rfl ?_
                refine go_skip2 rfl (by repeat constructor) (by repeat constructor) rfl ?_
                refine go_skip0 rfl rfl ?_
                refine go_skip1 rfl rfl ?_
                refine go_pure1 Tk rfl rfl rfl ?_
                refine go_nil ?_
                refine go_env [(0, _), (5, _), (9, _), (10, _), (93, _), (94, _), (95, _), (96, _), (97, _), (98, _), (99, _), (100, _), (101, _), (102, _), (103, _), (104, _)] ⟨rfl, rfl, rfl, rfl, rfl, rfl, rfl, rfl, rfl, rfl, rfl, rfl, rfl, rfl, rfl, rfl, trivial⟩ ?_
                refine go_cond_f rfl ?_
                refine go_skip ?_
                refine go_seq ?_
                have hxf : (fof l)[k] ∈ fof l := List.getElem_mem _
                have hxl : (fof l)[k] ∈ l := mem_fof.1 hxf
                refine go_region rfl ?_
                refine go_pure0 Tk rfl rfl rfl ?_
                refine go_re 11 (.bool (decide ((fof l)[k] ∈ l.take 0))) (by show some (Value.bool false) = _; simp) ?_
                refine go_nil ?_
                refine go_env [(0, _), (5, _), (9, _), (10, _), (11, _), (93, _), (94, _), (95, _), (96, _), (97, _), (98, _), (99, _), (100, _), (101, _), (102, _), (103, _)] ⟨rfl, rfl, rfl, rfl, rfl, rfl, rfl, rfl, rfl, rfl, rfl, rfl, rfl, rfl, rfl, rfl, trivial⟩ ?_
                refine go_seq ?_
                refine go_seq ?_
                refine go_region rfl ?_
                refine go_pure0 Tk rfl rfl rfl ?_
                refine go_nil ?_
                refine go_env [(0, _), (5, _), (9, _), (10, _), (11, _), (12, _), (93, _), (94, _), (95, _), (96, _), (97, _), (98, _), (99, _), (100, _), (101, _), (102, _), (103, _)] ⟨rfl, rfl, rfl, rfl, rfl, rfl, rfl, rfl, rfl, rfl, rfl, rfl, rfl, rfl, rfl, rfl, rfl, trivial⟩ ?_
                refine go_block ?_
                refine go_loop' (X := Nat) (fun j => [(11, .bool (decide ((fof l)[k] ∈ l.take j))), (12, .int .i64 (j : Int))]) [(0, _), (5, _), (9, _), (10, _), (93, _), (94, _), (95, _), (96, _), (97, _), (98, _), (99, _), (100, _), (101, _), (102, _), (103, _)] (fun _ => []) (fun j => j ≤ l.length) (fun j => l.length - j) (0) ⟨rfl, rfl, rfl, rfl, rfl, rfl, rfl, rfl, rfl, rfl, rfl, rfl, rfl, rfl, rfl, rfl, rfl, trivial⟩ (by repeat constructor) (by omega) ?_
                intro j hj
                refine go_seq ?_
                refine go_seq ?_
                refine go_region rfl ?_
                refine go_pure0 Tk rfl rfl rfl ?_
                refine go_pure0 Tk rfl rfl rfl ?_
                refine go_pure0 Tk rfl rfl rfl ?_
                refine go_pure0 Tk rfl rfl rfl ?_
                refine go_nil ?_
                refine go_env [(0, _), (5, _), (9, _), (10, _), (11, _), (12, _), (93, _), (94, _), (95, _), (96, _), (97, _), (98, _), (99, _), (100, _), (101, _), (102, _), (103, _), (108, _)] ⟨rfl, rfl, rfl, rfl, rfl, rfl, rfl, rfl, rfl, rfl, rfl, rfl, rfl, rfl, rfl, rfl, rfl, rfl, trivial⟩ ?_
                refine go_condD rfl ?_ ?_
                · intro hq4
                  refine go_skip ?_
                  refine go_seq ?_
                  refine go_block ?_
                  refine go_elem_fa (xs := l) (by repeat constructor) (j) (List.getElem?_eq_getElem (by omega)) (fun b6 o6 A6 c6 hA => ?_); cases hA
                  refine go_draw'  [5, 9] (SL.pre [(1, 0), (1, 1), (1, 2), (1, 3), (1, 4), (1, 6), (1, 7), (1, 8), (2, 5), (2, 9), (0, 10), (1, 11), (1, 12)] .nil) mixed rfl (by kernel_rfl) ?_
                  refine go_pure1 Tk rfl rfl rfl ?_
                  refine go_pure1 Tk rfl rfl rfl ?_
                  refine go_known 112 rfl ?_ ?_
                  · intro g5
                    (try simp only [decide_eq_true_eq, decide_eq_false_iff_not, Bool.not_eq_true', Bool.not_eq_false', Bool.not_eq_eq_eq_not, Bool.not_true, Bool.not_false, Int.not_lt, Int.not_le, beq_iff_eq, beq_eq_false_iff_ne, ne_eq] at g5)
                    refine go_skip1 rfl rfl ?_
                    refine go_skip1 rfl rfl ?_
                    refine go_skip1 rfl rfl ?_
                    refine go_skip1 rfl rfl ?_
                    refine go_skip1 rfl rfl ?_
                    refine go_skip1 rfl rfl ?_
                    refine go_skip2 rfl (by repeat constructor) (by repeat constructor) rfl ?_
                    refine go_skip2 rfl (by repeat constructor) (by repeat constructor) rfl ?_
                    refine go_skip0 rfl rfl ?_
                    refine go_pure1 Tk rfl rfl rfl ?_
                    refine go_pure1 Tk rfl rfl rfl ?_
                    refine go_nil ?_
                    refine go_env [(0, _), (5, _), (9, _), (10, _), (11, _), (12, _), (93, _), (94, _), (95, _), (96, _), (97, _), (98, _), (99, _), (100, _), (101, _), (102, _), (103, _), (113, _), (114, _), (115, _), (116, _), (117, _), (118, _), (119, _), (120, _), (121, _)] ⟨rfl, rfl, rfl, rfl, rfl, rfl, rfl, rfl, rfl, rfl, rfl, rfl, rfl, rfl, rfl, rfl, rfl, rfl, rfl, rfl, rfl, rfl, rfl, rfl, rfl, rfl, trivial⟩ ?_
                    refine go_blk ?_
                    refine go_region rfl ?_
                    refine go_pure0 Tk rfl rfl rfl ?_
                    refine go_pure0 Tk rfl rfl rfl ?_
                    refine go_pure0 Tk rfl rfl rfl ?_
                    refine go_nil ?_
                    refine go_i64 12 rfl (by omega) (by omega) ?_
                    refine go_re 11 (.bool (decide ((fof l)[k] ∈ l.take (j + 1)))) (by show some (Value.bool _) = _; first | rw [in_next_yes g5] | rw [in_next_no (by omega) g5]) ?_
                    refine go_back (j + 1) ⟨rfl, rfl, rfl, rfl, rfl, rfl, rfl, rfl, rfl, rfl, rfl, rfl, rfl, rfl, rfl, rfl, rfl, trivial⟩ (by repeat constructor) (by repeat constructor) (by omega) (by omega)
                  · intro g5
                    (try simp only [decide_eq_true_eq, decide_eq_false_iff_not, Bool.not_eq_true', Bool.not_eq_false', Bool.not_eq_eq_eq_not, Bool.not_true, Bool.not_false, Int.not_lt, Int.not_le, beq_iff_eq, beq_eq_false_iff_ne, ne_eq] at g5)
                    refine go_pure1 Tk rfl rfl rfl ?_
                    refine go_pure1 Tk rfl rfl rfl ?_
                    refine go_val1 rfl (idx_val Tk rfl rfl rfl rfl rfl (by omega)) rfl ?_
                    refine go_pure1 Tk rfl rfl rfl ?_
                    refine go_pure1 Tk rfl rfl rfl ?_
                    refine go_val1 rfl (idx_val Tk rfl rfl rfl rfl rfl (by omega)) rfl ?_
                    refine go_val2 rfl (load_val Tk rfl rfl rfl (by first | exact at_pt (by repeat constructor) (by rfl) | exact at_cl 0 (by repeat constructor) (by rfl) | exact at_cl 1 (by repeat constructor) (by rfl) | exact at_cl 2 (by repeat constructor) (by rfl) | exact at_cl 3 (by repeat constructor) (by rfl) | exact at_cl 4 (by repeat constructor) (by rfl) | exact at_cl 5 (by repeat constructor) (by rfl) | exact at_cl 6 (by repeat constructor) (by rfl) | exact at_cl 7 (by repeat constructor) (by rfl)) (by rfl)) (by repeat constructor) (by repeat constructor) rfl ?_
                    refine go_val2 rfl (load_val Tk rfl rfl rfl (by first | exact at_pt (by repeat constructor) (by rfl) | exact at_cl 0 (by repeat constructor) (by rfl) | exact at_cl 1 (by repeat constructor) (by rfl) | exact at_cl 2 (by repeat constructor) (by rfl) | exact at_cl 3 (by repeat constructor) (by rfl) | exact at_cl 4 (by repeat constructor) (by rfl) | exact at_cl 5 (by repeat constructor) (by rfl) | exact at_cl 6 (by repeat constructor) (by rfl) | exact at_cl 7 (by repeat constructor) (by rfl)) (by rfl)) (by repeat constructor) (by repeat constructor) rfl ?_
                    refine go_call (refSameFact _ _ _ _ _ _ _ _) rfl rfl (by rfl) rfl (by repeat constructor) (by repeat constructor) (fun h => nomatch h) ?_
                    rintro _ _ _ ⟨rfl, rfl, rfl⟩
                    refine go_pure1 Tk rfl rfl rfl ?_
                    refine go_pure1 Tk rfl rfl rfl ?_
                    refine go_nil ?_
                    refine go_env [(0, _), (5, _), (9, _), (10, _), (11, _), (12, _), (93, _), (94, _), (95, _), (96, _), (97, _), (98, _), (99, _), (100, _), (101, _), (102, _), (103, _), (113, _), (114, _), (115, _), (116, _), (117, _), (118, _), (119, _), (120, _), (121, _)] ⟨rfl, rfl, rfl, rfl, rfl, rfl, rfl, rfl, rfl, rfl, rfl, rfl, rfl, rfl, rfl, rfl, rfl, rfl, rfl, rfl, rfl, rfl, rfl, rfl, rfl, rfl, trivial⟩ ?_
                    refine go_blk ?_
                    refine go_region rfl ?_
                    refine go_pure0 Tk rfl rfl rfl ?_
                    refine go_pure0 Tk rfl rfl rfl ?_
                    refine go_pure0 Tk rfl rfl rfl ?_
                    refine go_nil ?_
                    refine go_i64 12 rfl (by omega) (by omega) ?_
                    refine go_re 11 (.bool (decide ((fof l)[k] ∈ l.take (j + 1)))) (by show some (Value.bool _) = _; first | rw [in_next_yes g5] | rw [in_next_no (by omega) g5]) ?_
                    refine go_back (j + 1) ⟨rfl, rfl, rfl, rfl, rfl, rfl, rfl, rfl, rfl, rfl, rfl, rfl, rfl, rfl, rfl, rfl, rfl, trivial⟩ (by repeat constructor) (by repeat constructor) (by omega) (by omega)
                · intro hq4
                  refine go_exit rfl ?_
                  refine go_seq ?_
                  refine go_re 11 (.bool true) (by show some (Value.bool _) = _; rw [List.take_of_length_le (show l.length ≤ j by omega), decide_eq_true hxl]) ?_
                  refine go_region rfl ?_
                  refine go_pure0 Tk rfl rfl rfl ?_
                  refine go_pure0 Tk rfl rfl rfl ?_
                  refine go_pure0 Tk rfl rfl rfl ?_
                  refine go_val0 rfl (idx_val Tk rfl rfl rfl rfl rfl (by omega)) rfl ?_
                  refine go_val0 rfl (load_val Tk rfl rfl rfl (by first | exact at_pt (by repeat constructor) (by rfl) | exact at_cl 0 (by repeat constructor) (by rfl) | exact at_cl 1 (by repeat constructor) (by rfl) | exact at_cl 2 (by repeat constructor) (by rfl) | exact at_cl 3 (by repeat constructor) (by rfl) | exact at_cl 4 (by repeat constructor) (by rfl) | exact at_cl 5 (by repeat constructor) (by rfl) | exact at_cl 6 (by repeat constructor) (by rfl) | exact at_cl 7 (by repeat constructor) (by rfl)) (by rfl)) rfl ?_
                  refine go_call (refLift (fof l)[k] A5 c5 (hBl _ hxl)) rfl rfl (by rfl) rfl (by repeat constructor) (by repeat constructor) (fun h => nomatch h) ?_
                  rintro _ _ _ ⟨A7, c7, rfl, rfl, rfl⟩
                  refine go_call (relFindN (some ⟨ba, 0, none⟩) (fof l) (lift (fof l)[k]) A7 c7 (lift_ok (gl _ hxl)) (by rw [lift_len]; exact Nat.le_trans (hBl _ hxl) (by omega)) Fl.n Fl.b) rfl rfl (by rfl) rfl (by repeat constructor) (by repeat constructor) (fun h => nomatch h) ?_
                  rintro _ _ _ ⟨A8, c8, rfl, rfl, rfl⟩
                  rw [find_lift (rises_fof l) hxf]
                  refine go_freeze_dl (T := tFa) (A := A8) (by repeat constructor) ?_
                  refine go_pure0 Tk rfl rfl rfl ?_
                  refine go_nil ?_
                  refine go_env [(0, _), (5, _), (9, _), (10, _), (11, _), (13, _), (93, _), (94, _), (95, _), (96, _), (97, _), (98, _), (99, _), (100, _), (101, _), (102, _), (103, _)] ⟨rfl, rfl, rfl, rfl, rfl, rfl, rfl, rfl, rfl, rfl, rfl, rfl, rfl, rfl, rfl, rfl, rfl, trivial⟩ ?_
                  refine go_seq ?_
                  refine go_elem_fa (xs := [(fof l)[k]]) (by repeat constructor) (0) (List.getElem?_eq_getElem (by simp)) (fun b9 o9 A9 c9 hA => ?_); cases hA
                  refine go_draw'  [10, 14] (SL.pre [(1, 0), (1, 1), (1, 2), (1, 3), (1, 4), (1, 5), (1, 6), (1, 7), (1, 8), (1, 9), (1, 11), (1, 12), (1, 13), (2, 10), (2, 14), (0, 15), (1, 16), (1, 17)] .nil) mixed rfl (by kernel_rfl) ?_
                  refine go_pure1 Tk rfl rfl rfl ?_
                  refine go_re 130 (.bool true) (by show some (Value.bool _) = _; rfl) ?_
                  refine go_pure1 Tk rfl rfl rfl ?_
                  refine go_pure1 Tk rfl rfl rfl ?_
                  refine go_pure1 Tk rfl rfl rfl ?_
                  refine go_pure1 Tk rfl rfl rfl ?_
                  refine go_pure1 Tk rfl rfl rfl ?_
                  refine go_re 135 (.bool false) (by show some (Value.bool _) = _; first | rfl | simp) ?_
                  refine go_pure1 Tk rfl rfl rfl ?_
                  refine go_pure1 Tk rfl rfl rfl ?_
                  refine go_pure1 Tk rfl rfl rfl ?_
                  refine go_val1 rfl (idx_val Tk rfl rfl rfl rfl rfl (by simp)) rfl ?_
                  refine go_pure1 Tk rfl rfl rfl ?_
                  refine go_pure1 Tk rfl rfl rfl ?_
                  refine go_val1 rfl (idx_val Tk rfl rfl rfl rfl rfl (by omega)) rfl ?_
                  refine go_val2 rfl (load_val Tk rfl rfl rfl (by first | exact at_pt (by repeat constructor) (by rfl) | exact at_cl 0 (by repeat constructor) (by rfl) | exact at_cl 1 (by repeat constructor) (by rfl) | exact at_cl 2 (by repeat constructor) (by rfl) | exact at_cl 3 (by repeat constructor) (by rfl) | exact at_cl 4 (by repeat constructor) (by rfl) | exact at_cl 5 (by repeat constructor) (by rfl) | exact at_cl 6 (by repeat constructor) (by rfl) | exact at_cl 7 (by repeat constructor) (by rfl)) (by rfl)) (by repeat constructor) (by repeat constructor) rfl ?_
                  refine go_val2 rfl (load_val Tk rfl rfl rfl (by first | exact at_pt (by repeat constructor) (by rfl) | exact at_cl 0 (by repeat constructor) (by rfl) | exact at_cl 1 (by repeat constructor) (by rfl) | exact at_cl 2 (by repeat constructor) (by rfl) | exact at_cl 3 (by repeat constructor) (by rfl) | exact at_cl 4 (by repeat constructor) (by rfl) | exact at_cl 5 (by repeat constructor) (by rfl) | exact at_cl 6 (by repeat constructor) (by rfl) | exact at_cl 7 (by repeat constructor) (by rfl)) (by rfl)) (by repeat constructor) (by repeat constructor) rfl ?_
                  refine go_call (refSameFact _ _ _ _ _ _ _ _) rfl rfl (by rfl) rfl (by repeat constructor) (by repeat constructor) (fun h => nomatch h) ?_
                  rintro _ _ _ ⟨rfl, rfl, rfl⟩
                  refine go_pure1 Tk rfl rfl rfl ?_
                  refine go_re 146 (.bool false) (by show some (Value.bool _) = _; simp [cmpF_self]) ?_
                  refine go_pure1 Tk rfl rfl rfl ?_
                  refine go_nil ?_
                  refine go_env [(0, _), (5, _), (9, _), (10, _), (93, _), (94, _), (95, _), (96, _), (97, _), (98, _), (99, _), (100, _), (101, _), (102, _), (103, _), (133, _), (134, _), (135, _), (138, _), (139, _), (140, _), (141, _), (142, _), (143, _), (144, _), (145, _), (146, _), (147, _)] ⟨rfl, rfl, rfl, rfl, rfl, rfl, rfl, rfl, rfl, rfl, rfl, rfl, rfl, rfl, rfl, rfl, rfl, rfl, rfl, rfl, rfl, rfl, rfl, rfl, rfl, rfl, rfl, rfl, trivial⟩ ?_
                  refine go_cond_f rfl ?_
                  refine go_skip ?_
                  refine go_blk ?_
                  refine go_region rfl ?_
                  refine go_pure0 Tk rfl rfl rfl ?_
                  refine go_pure0 Tk rfl rfl rfl ?_
                  refine go_pure0 Tk rfl rfl rfl ?_
                  refine go_nil ?_
                  refine go_i64 10 rfl (by omega) (by omega) ?_
                  refine go_back (k + 1) ⟨rfl, rfl, rfl, rfl, trivial⟩ (by repeat constructor) (by repeat constructor) (by omega) (by omega)
            · intro hq2
              refine go_exit rfl ?_
              refine go_seq ?_
              refine go_seq ?_
              refine go_region rfl ?_
              refine go_pure0 Tk rfl rfl rfl ?_
              refine go_nil ?_
              refine go_env [(0, _), (5, _), (14, _)] ⟨rfl, rfl, rfl, trivial⟩ ?_
              refine go_block ?_
              refine go_loop' (X := Nat) (fun k => [(14, .int .i64 (k : Int))]) [(0, _), (5, _)] (fun _ => []) (fun k => k ≤ l.length) (fun k => l.length - k) (0) ⟨rfl, rfl, rfl, trivial⟩ (by repeat constructor) (by omega) ?_
              intro k hk
              refine go_seq ?_
              refine go_seq ?_
              refine go_region rfl ?_
              refine go_pure0 Tk rfl rfl rfl ?_
              refine go_pure0 Tk rfl rfl rfl ?_
              refine go_pure0 Tk rfl rfl rfl ?_
              refine go_pure0 Tk rfl rfl rfl ?_
              refine go_nil ?_
              refine go_env [(0, _), (5, _), (14, _), (151, _)] ⟨rfl, rfl, rfl, rfl, trivial⟩ ?_
              refine go_condD rfl ?_ ?_
              · intro hq5
                refine go_skip ?_
                refine go_seq ?_
                refine go_block ?_
                refine go_seq ?_
                refine go_elem_fa (xs := l) (by repeat constructor) (k) (List.getElem?_eq_getElem (by omega)) (fun b2 o2 A2 c2 hA => ?_); cases hA
                refine go_region rfl ?_
                refine go_pure0 Tk rfl rfl rfl ?_
                refine go_pure0 Tk rfl rfl rfl ?_
                refine go_pure0 Tk rfl rfl rfl ?_
                refine go_val0 rfl (idx_val Tk rfl rfl rfl rfl rfl (by omega)) rfl ?_
                refine go_val0 rfl (load_val Tk rfl rfl rfl (by first | exact at_pt (by repeat constructor) (by rfl) | exact at_cl 0 (by repeat constructor) (by rfl) | exact at_cl 1 (by repeat constructor) (by rfl) | exact at_cl 2 (by repeat constructor) (by rfl) | exact at_cl 3 (by repeat constructor) (by rfl) | exact at_cl 4 (by repeat constructor) (by rfl) | exact at_cl 5 (by repeat constructor) (by rfl) | exact at_cl 6 (by repeat constructor) (by rfl) | exact at_cl 7 (by repeat constructor) (by rfl)) (by rfl)) rfl ?_
                refine go_call (relHasP ba (fof l) l[k] A2 c2 Fl.r Fl.n) rfl rfl (by rfl) rfl (by repeat constructor) (by repeat constructor) (fun h => nomatch h) ?_
                rintro _ _ _ ⟨rfl, rfl, rfl⟩
                refine go_pure0 Tk rfl rfl rfl ?_
                refine go_re 160 (.bool false) (by show some (Value.bool _) = _; simp [mem_fof]) ?_
                refine go_nil ?_
                refine go_env [(0, _), (5, _), (14, _), (160, _)] ⟨rfl, rfl, rfl, rfl, trivial⟩ ?_
                refine go_cond_f rfl ?_
                refine go_skip ?_
                refine go_blk ?_
                refine go_region rfl ?_
                refine go_pure0 Tk rfl rfl rfl ?_
                refine go_pure0 Tk rfl rfl rfl ?_
                refine go_pure0 Tk rfl rfl rfl ?_
                refine go_nil ?_
                refine go_i64 14 rfl (by omega) (by omega) ?_
                refine go_back (k + 1) ⟨rfl, rfl, rfl, trivial⟩ (by repeat constructor) (by repeat constructor) (by omega) (by omega)
              · intro hq5
                refine go_exit rfl ?_
                refine go_seq ?_
                refine go_region rfl ?_
                refine go_call (lawWorks10) rfl rfl (by rfl) rfl (by repeat constructor) (by repeat constructor) (fun h => nomatch h) ?_
                rintro _ _ _ ⟨rfl, rfl, rfl⟩
                refine go_pure0 Tk rfl rfl rfl ?_
                refine go_nil ?_
                refine go_env [(4, _)] ⟨rfl, trivial⟩ ?_
                refine go_ret ⟨rfl, rfl⟩ _ _ (fun a w hp ho hf hs => res1 (by rfl) (.tmp rfl) a w hp ho hf hs) ⟨rfl, rfl, rfl⟩ (by repeat constructor) (by repeat constructor)
      · intro h1
        (try simp only [decide_eq_true_eq, decide_eq_false_iff_not, Bool.not_eq_true', Bool.not_eq_false', Bool.not_eq_eq_eq_not, Bool.not_true, Bool.not_false, Int.not_lt, Int.not_le, beq_iff_eq, beq_eq_false_iff_ne, ne_eq] at h1)
        refine go_skip0 rfl rfl ?_
        refine go_skip0 rfl rfl ?_
        refine go_skip0 rfl rfl ?_
        refine go_pure0 Tk rfl rfl rfl ?_
        refine go_nil ?_
        refine go_env [(0, _), (1, _), (5, _), (6, _), (7, _), (32, _), (33, _), (34, _), (35, _)] ⟨rfl, rfl, rfl, rfl, rfl, rfl, rfl, rfl, rfl, trivial⟩ ?_
        refine go_cond_f rfl ?_
        refine go_exit rfl ?_
        refine go_seq ?_
        refine go_seq ?_
        refine go_region rfl ?_
        refine go_pure0 Tk rfl rfl rfl ?_
        refine go_pure0 Tk rfl rfl rfl ?_
        refine go_pure0 Tk rfl rfl rfl ?_
        refine go_i64 53 rfl (by omega) (by omega) ?_
        refine go_pure0 Tk rfl rfl rfl ?_
        refine go_nil ?_
        refine go_env [(0, _), (5, _), (6, _), (8, _)] ⟨rfl, rfl, rfl, rfl, trivial⟩ ?_
        refine go_block ?_
        refine go_loop' (X := Nat × List Fa) (fun x => [(8, .int .i64 ((x.1 : Int) - 1))]) [(0, _), (5, _), (6, _)] (fun x => [relO bb x.2]) (fun x => x.1 ≤ l.length ∧ rises x.2 ∧ (∀ y ∈ x.2, y ∈ l) ∧ ∀ y ∈ l.drop x.1, y ∈ x.2) (fun x => x.1) ((l.length, s)) ⟨rfl, rfl, rfl, rfl, trivial⟩ (by repeat constructor) ⟨by omega, hr, hs, by simp⟩ ?_
        intro ⟨j, s⟩ ⟨hj, hr, hs, hd⟩
        simp only at hj hr hs hd ⊢
        refine go_seq ?_
        refine go_seq ?_
        refine go_region rfl ?_
        refine go_pure0 Tk rfl rfl rfl ?_
        refine go_pure0 Tk rfl rfl rfl ?_
        refine go_nil ?_
        refine go_env [(0, _), (5, _), (6, _), (8, _), (55, _)] ⟨rfl, rfl, rfl, rfl, rfl, trivial⟩ ?_
        refine go_condD rfl ?_ ?_
        · intro hq6
          refine go_skip ?_
          refine go_seq ?_
          refine go_block ?_
          refine go_seq ?_
          have hsl := sub_len hr hs
          have hfl := fput_len s l[j - 1]
          refine go_elem_fa (xs := l) (by repeat constructor) (j - 1) (List.getElem?_eq_getElem (by omega)) (fun b2 o2 A2 c2 hA => ?_); cases hA
          refine go_region rfl ?_
          refine go_pure0 Tk rfl rfl rfl ?_
          refine go_pure0 Tk rfl rfl rfl ?_
          refine go_pure0 Tk rfl rfl rfl ?_
          refine go_re 60 (.int .i64 ((j - 1 : Nat) : Int)) (by show some (Value.int _ _) = _; rw [show ((j - 1 : Nat) : Int) = (j : Int) - 1 by omega]) ?_
          refine go_val0 rfl (idx_val Tk rfl rfl rfl rfl rfl (by omega)) rfl ?_
          refine go_val0 rfl (load_val Tk rfl rfl rfl (by first | exact at_pt (by repeat constructor) (by rfl) | exact at_cl 0 (by repeat constructor) (by rfl) | exact at_cl 1 (by repeat constructor) (by rfl) | exact at_cl 2 (by repeat constructor) (by rfl) | exact at_cl 3 (by repeat constructor) (by rfl) | exact at_cl 4 (by repeat constructor) (by rfl) | exact at_cl 5 (by repeat constructor) (by rfl) | exact at_cl 6 (by repeat constructor) (by rfl) | exact at_cl 7 (by repeat constructor) (by rfl)) (by rfl)) rfl ?_
          refine go_call (relPut bb s l[j - 1] A2 c2 hr (by omega) (hBl _ (List.getElem_mem _))) rfl rfl (by rfl) rfl (by repeat constructor) (by repeat constructor) (fun h => nomatch h) ?_
          rintro _ _ _ ⟨rfl, rfl, rfl⟩
          refine go_nil ?_
          refine go_env [(0, _), (5, _), (6, _), (8, _)] ⟨rfl, rfl, rfl, rfl, trivial⟩ ?_
          refine go_region rfl ?_
          refine go_pure0 Tk rfl rfl rfl ?_
          refine go_pure0 Tk rfl rfl rfl ?_
          refine go_pure0 Tk rfl rfl rfl ?_
          refine go_re 66 (.int .i64 ((j - 1 : Nat) : Int)) (by show some (Value.int _ _) = _; rw [show ((j - 1 : Nat) : Int) = (j : Int) - 1 by omega]) ?_
          refine go_val0 rfl (idx_val Tk rfl rfl rfl rfl rfl (by omega)) rfl ?_
          refine go_val0 rfl (load_val Tk rfl rfl rfl (by first | exact at_pt (by repeat constructor) (by rfl) | exact at_cl 0 (by repeat constructor) (by rfl) | exact at_cl 1 (by repeat constructor) (by rfl) | exact at_cl 2 (by repeat constructor) (by rfl) | exact at_cl 3 (by repeat constructor) (by rfl) | exact at_cl 4 (by repeat constructor) (by rfl) | exact at_cl 5 (by repeat constructor) (by rfl) | exact at_cl 6 (by repeat constructor) (by rfl) | exact at_cl 7 (by repeat constructor) (by rfl)) (by rfl)) rfl ?_
          refine go_call (relPut bb (fput s l[j - 1]) l[j - 1] A2 c2 (rises_fput hr _) (by omega) (hBl _ (List.getElem_mem _))) rfl rfl (by rfl) rfl (by repeat constructor) (by repeat constructor) (fun h => nomatch h) ?_
          rintro _ _ _ ⟨rfl, rfl, rfl⟩
          refine go_nil ?_
          refine go_env [(0, _), (5, _), (6, _), (8, _)] ⟨rfl, rfl, rfl, rfl, trivial⟩ ?_
          refine go_blk ?_
          refine go_region rfl ?_
          refine go_pure0 Tk rfl rfl rfl ?_
          refine go_pure0 Tk rfl rfl rfl ?_
          refine go_pure0 Tk rfl rfl rfl ?_
          refine go_nil ?_
          refine go_i64 8 rfl (by omega) (by omega) ?_
          refine go_re 8 (.int .i64 (((j - 1 : Nat) : Int) - 1)) (by show some (Value.int _ _) = _; rw [show ((j - 1 : Nat) : Int) = (j : Int) - 1 by omega]) ?_
          refine go_back (j - 1, fput (fput s l[j - 1]) l[j - 1]) ⟨rfl, rfl, rfl, rfl, trivial⟩ (by repeat constructor) (by repeat constructor) ⟨by show j - 1 ≤ _; omega, rises_fput (rises_fput hr _) _, fun y hy => (mem_fput.1 hy).elim (fun e => e ▸ List.getElem_mem _) (fun hy => (mem_fput.1 hy).elim (fun e => e ▸ List.getElem_mem _) (hs y)), drop_in (by omega) (by omega) hd⟩ (by show j - 1 < j; omega)
        · intro hq6
          refine go_exit rfl ?_
          refine go_seq ?_
          obtain rfl : j = 0 := by omega
          obtain rfl : s = fof l := fof_all hr hs (fun y hy => hd y (by simpa using hy))
          refine go_freeze_rel (b := bb) (by repeat constructor) ?_
          refine go_ent (relN (some ⟨bb, 0, none⟩) (fof l)) (fun hh hps => relN_some (hps (relP bb (fof l)) (by repeat constructor))) ?_
          refine go_region rfl ?_
          refine go_pure0 Tk rfl rfl rfl ?_
          refine go_call (relListN (some ⟨ba, 0, none⟩) (fof l) (Fl).n (Fl).b) rfl rfl (by rfl) rfl (by repeat constructor) (by repeat constructor) (fun h => nomatch h) ?_
          rintro _ _ _ ⟨A1, c1, rfl, rfl, rfl⟩
          refine go_freeze_dl (T := tFa) (A := A1) (by repeat constructor) ?_
          refine go_pure0 Tk rfl rfl rfl ?_
          refine go_nil ?_
          refine go_env [(0, _), (5, _), (6, _), (9, _)] ⟨rfl, rfl, rfl, rfl, trivial⟩ ?_
          refine go_seq ?_
          refine go_seq ?_
          refine go_region rfl ?_
          refine go_pure0 Tk rfl rfl rfl ?_
          refine go_pure0 Tk rfl rfl rfl ?_
          refine go_call (relListN (some ⟨bb, 0, none⟩) (fof l) (Fl).n (Fl).b) rfl rfl (by rfl) rfl (by repeat constructor) (by repeat constructor) (fun h => nomatch h) ?_
          rintro _ _ _ ⟨A3, c3, rfl, rfl, rfl⟩
          refine go_freeze_dl (T := tFa) (A := A3) (by repeat constructor) ?_
          refine go_call (refSame A1 c1 (fof l) A3 c3 (fof l)) rfl rfl (by rfl) rfl (by repeat constructor) (by repeat constructor) (fun h => nomatch h) ?_
          rintro _ _ _ ⟨rfl, rfl, rfl⟩
          refine go_pure0 Tk rfl rfl rfl ?_
          refine go_re 76 (.bool false) (by show some (Value.bool _) = _; first | rfl | simp) ?_
          refine go_pure0 Tk rfl rfl rfl ?_
          refine go_pure0 Tk rfl rfl rfl ?_
          refine go_call (relLenP ba (fof l)) rfl rfl (by rfl) rfl (by repeat constructor) (by repeat constructor) (fun h => nomatch h) ?_
          rintro _ _ _ ⟨rfl, rfl, rfl⟩
          refine go_pure0 Tk rfl rfl rfl ?_
          refine go_pure0 Tk rfl rfl rfl ?_
          refine go_pure0 Tk rfl rfl rfl ?_
          refine go_re 82 (.bool false) (by show some (Value.bool _) = _; first | rfl | simp) ?_
          refine go_pure0 Tk rfl rfl rfl ?_
          refine go_nil ?_
          refine go_env [(0, _), (5, _), (9, _), (83, _)] ⟨rfl, rfl, rfl, rfl, trivial⟩ ?_
          refine go_cond_f rfl ?_
          refine go_skip ?_
          refine go_seq ?_
          refine go_seq ?_
          refine go_len (xs := fof l) (by repeat constructor) (fun lx mx => ?_)
          refine go_region rfl ?_
          refine go_pure0 Tk rfl rfl rfl ?_
          refine go_nil ?_
          refine go_env [(0, _), (5, _), (9, _), (10, _)] ⟨rfl, rfl, rfl, rfl, trivial⟩ ?_
          refine go_block ?_
          refine go_loop' (X := Nat) (fun k => [(10, .int .i64 (k : Int))]) [(0, _), (5, _), (9, _)] (fun _ => []) (fun k => k ≤ (fof l).length) (fun k => (fof l).length - k) (0) ⟨rfl, rfl, rfl, rfl, trivial⟩ (by repeat constructor) (by omega) ?_
          intro k hk
          refine go_seq ?_
          refine go_seq ?_
          refine go_region rfl ?_
          refine go_pure0 Tk rfl rfl rfl ?_
          refine go_pure0 Tk rfl rfl rfl ?_
          refine go_pure0 Tk rfl rfl rfl ?_
          refine go_pure0 Tk rfl rfl rfl ?_
          refine go_nil ?_
          refine go_env [(0, _), (5, _), (9, _), (10, _), (87, _)] ⟨rfl, rfl, rfl, rfl, rfl, trivial⟩ ?_
          refine go_condD rfl ?_ ?_
          · intro hq7
            refine go_skip ?_
            refine go_seq ?_
            refine go_block ?_
            refine go_seq ?_
            refine go_seq ?_
            by_cases hk0 : 0 < k
            · skip
              refine go_elem_fa (xs := fof l) (c := c1) (by repeat constructor) (k - 1) (List.getElem?_eq_getElem (by omega)) (fun b4 o4 A4 c4 hA => ?_); cases hA
              refine go_elem_fa (xs := fof l) (c := c1) (by repeat constructor) (k) (List.getElem?_eq_getElem (by omega)) (fun b5 o5 A5 c5 hA => ?_); cases hA
              have hcr : cmpF (fof l)[k - 1].p (fof l)[k - 1].a (fof l)[k].p (fof l)[k].a < 0 := rises_at (rises_fof l) (by omega) (by omega)
              refine go_draw'  [7, 11] (SL.pre [(1, 0), (1, 1), (1, 2), (1, 3), (1, 4), (1, 5), (1, 6), (1, 8), (1, 9), (1, 10), (2, 7), (2, 11), (0, 12), (1, 13), (1, 14)] .nil) mixed rfl (by kernel_rfl) ?_
              refine go_pure1 Tk rfl rfl rfl ?_
              refine go_pure1 Tk rfl rfl rfl ?_
              refine go_re 91 (.bool true) (by show some _ = _; rw [decide_eq_true (by omega)]) ?_
              refine go_pure1 Tk rfl rfl rfl ?_
              refine go_pure1 Tk rfl rfl rfl ?_
              refine go_pure1 Tk rfl rfl rfl ?_
              refine go_pure1 Tk rfl rfl rfl ?_
              refine go_i64 95 rfl (by omega) (by omega) ?_
              refine go_re 95 (.int .i64 ((k - 1 : Nat) : Int)) (by show some (Value.int _ _) = _; rw [show ((k - 1 : Nat) : Int) = (k : Int) - 1 by omega]) ?_
              refine go_val1 rfl (idx_val Tk rfl rfl rfl rfl rfl (by omega)) rfl ?_
              refine go_pure1 Tk rfl rfl rfl ?_
              refine go_pure1 Tk rfl rfl rfl ?_
              refine go_val1 rfl (idx_val Tk rfl rfl rfl rfl rfl (by omega)) rfl ?_
              refine go_val2 rfl (load_val Tk rfl rfl rfl (by first | exact at_pt (by repeat constructor) (by rfl) | exact at_cl 0 (by repeat constructor) (by rfl) | exact at_cl 1 (by repeat constructor) (by rfl) | exact at_cl 2 (by repeat constructor) (by rfl) | exact at_cl 3 (by repeat constructor) (by rfl) | exact at_cl 4 (by repeat constructor) (by rfl) | exact at_cl 5 (by repeat constructor) (by rfl) | exact at_cl 6 (by repeat constructor) (by rfl) | exact at_cl 7 (by repeat constructor) (by rfl)) (by rfl)) (by repeat constructor) (by repeat constructor) rfl ?_
              refine go_val2 rfl (load_val Tk rfl rfl rfl (by first | exact at_pt (by repeat constructor) (by rfl) | exact at_cl 0 (by repeat constructor) (by rfl) | exact at_cl 1 (by repeat constructor) (by rfl) | exact at_cl 2 (by repeat constructor) (by rfl) | exact at_cl 3 (by repeat constructor) (by rfl) | exact at_cl 4 (by repeat constructor) (by rfl) | exact at_cl 5 (by repeat constructor) (by rfl) | exact at_cl 6 (by repeat constructor) (by rfl) | exact at_cl 7 (by repeat constructor) (by rfl)) (by rfl)) (by repeat constructor) (by repeat constructor) rfl ?_
              refine go_call (refCompare _ _ _ _ _ _ _ _) rfl rfl (by rfl) rfl (by repeat constructor) (by repeat constructor) (fun h => nomatch h) ?_
              rintro _ _ _ ⟨rfl, rfl, rfl⟩
              refine go_pure1 Tk rfl rfl rfl ?_
              refine go_re 103 (.bool false) (by show some (Value.bool _) = _; rw [decide_eq_false (by omega)]) ?_
              refine go_pure1 Tk rfl rfl rfl ?_
              refine go_nil ?_
              refine go_env [(0, _), (5, _), (9, _), (10, _), (93, _), (94, _), (95, _), (96, _), (97, _), (98, _), (99, _), (100, _), (101, _), (102, _), (103, _), (104, _)] ⟨rfl, rfl, rfl, rfl, rfl, rfl, rfl, rfl, rfl, rfl, rfl, rfl, rfl, rfl, rfl, rfl, trivial⟩ ?_
              refine go_cond_f rfl ?_
              refine go_skip ?_
              refine go_seq ?_
              have hxf : (fof l)[k] ∈ fof l := List.getElem_mem _
              have hxl : (fof l)[k] ∈ l := mem_fof.1 hxf
              refine go_region rfl ?_
              refine go_pure0 Tk rfl rfl rfl ?_
              refine go_re 11 (.bool (decide ((fof l)[k] ∈ l.take 0))) (by show some (Value.bool false) = _; simp) ?_
              refine go_nil ?_
              refine go_env [(0, _), (5, _), (9, _), (10, _), (11, _), (93, _), (94, _), (95, _), (96, _), (97, _), (98, _), (99, _), (100, _), (101, _), (102, _), (103, _)] ⟨rfl, rfl, rfl, rfl, rfl, rfl, rfl, rfl, rfl, rfl, rfl, rfl, rfl, rfl, rfl, rfl, trivial⟩ ?_
              refine go_seq ?_
              refine go_seq ?_
              refine go_region rfl ?_
              refine go_pure0 Tk rfl rfl rfl ?_
              refine go_nil ?_
              refine go_env [(0, _), (5, _), (9, _), (10, _), (11, _), (12, _), (93, _), (94, _), (95, _), (96, _), (97, _), (98, _), (99, _), (100, _), (101, _), (102, _), (103, _)] ⟨rfl, rfl, rfl, rfl, rfl, rfl, rfl, rfl, rfl, rfl, rfl, rfl, rfl, rfl, rfl, rfl, rfl, trivial⟩ ?_
              refine go_block ?_
              refine go_loop' (X := Nat) (fun j => [(11, .bool (decide ((fof l)[k] ∈ l.take j))), (12, .int .i64 (j : Int))]) [(0, _), (5, _), (9, _), (10, _), (93, _), (94, _), (95, _), (96, _), (97, _), (98, _), (99, _), (100, _), (101, _), (102, _), (103, _)] (fun _ => []) (fun j => j ≤ l.length) (fun j => l.length - j) (0) ⟨rfl, rfl, rfl, rfl, rfl, rfl, rfl, rfl, rfl, rfl, rfl, rfl, rfl, rfl, rfl, rfl, rfl, trivial⟩ (by repeat constructor) (by omega) ?_
              intro j hj
              refine go_seq ?_
              refine go_seq ?_
              refine go_region rfl ?_
              refine go_pure0 Tk rfl rfl rfl ?_
              refine go_pure0 Tk rfl rfl rfl ?_
              refine go_pure0 Tk rfl rfl rfl ?_
              refine go_pure0 Tk rfl rfl rfl ?_
              refine go_nil ?_
              refine go_env [(0, _), (5, _), (9, _), (10, _), (11, _), (12, _), (93, _), (94, _), (95, _), (96, _), (97, _), (98, _), (99, _), (100, _), (101, _), (102, _), (103, _), (108, _)] ⟨rfl, rfl, rfl, rfl, rfl, rfl, rfl, rfl, rfl, rfl, rfl, rfl, rfl, rfl, rfl, rfl, rfl, rfl, trivial⟩ ?_
              refine go_condD rfl ?_ ?_
              · intro hq8
                refine go_skip ?_
                refine go_seq ?_
                refine go_block ?_
                refine go_elem_fa (xs := l) (by repeat constructor) (j) (List.getElem?_eq_getElem (by omega)) (fun b6 o6 A6 c6 hA => ?_); cases hA
                refine go_draw'  [5, 9] (SL.pre [(1, 0), (1, 1), (1, 2), (1, 3), (1, 4), (1, 6), (1, 7), (1, 8), (2, 5), (2, 9), (0, 10), (1, 11), (1, 12)] .nil) mixed rfl (by kernel_rfl) ?_
                refine go_pure1 Tk rfl rfl rfl ?_
                refine go_pure1 Tk rfl rfl rfl ?_
                refine go_known 112 rfl ?_ ?_
                · intro g5
                  (try simp only [decide_eq_true_eq, decide_eq_false_iff_not, Bool.not_eq_true', Bool.not_eq_false', Bool.not_eq_eq_eq_not, Bool.not_true, Bool.not_false, Int.not_lt, Int.not_le, beq_iff_eq, beq_eq_false_iff_ne, ne_eq] at g5)
                  refine go_skip1 rfl rfl ?_
                  refine go_skip1 rfl rfl ?_
                  refine go_skip1 rfl rfl ?_
                  refine go_skip1 rfl rfl ?_
                  refine go_skip1 rfl rfl ?_
                  refine go_skip1 rfl rfl ?_
                  refine go_skip2 rfl (by repeat constructor) (by repeat constructor) rfl ?_
                  refine go_skip2 rfl (by repeat constructor) (by repeat constructor) rfl ?_
                  refine go_skip0 rfl rfl ?_
                  refine go_pure1 Tk rfl rfl rfl ?_
                  refine go_pure1 Tk rfl rfl rfl ?_
                  refine go_nil ?_
                  refine go_env [(0, _), (5, _), (9, _), (10, _), (11, _), (12, _), (93, _), (94, _), (95, _), (96, _), (97, _), (98, _), (99, _), (100, _), (101, _), (102, _), (103, _), (113, _), (114, _), (115, _), (116, _), (117, _), (118, _), (119, _), (120, _), (121, _)] ⟨rfl, rfl, rfl, rfl, rfl, rfl, rfl, rfl, rfl, rfl, rfl, rfl, rfl, rfl, rfl, rfl, rfl, rfl, rfl, rfl, rfl, rfl, rfl, rfl, rfl, rfl, trivial⟩ ?_
                  refine go_blk ?_
                  refine go_region rfl ?_
                  refine go_pure0 Tk rfl rfl rfl ?_
                  refine go_pure0 Tk rfl rfl rfl ?_
                  refine go_pure0 Tk rfl rfl rfl ?_
                  refine go_nil ?_
                  refine go_i64 12 rfl (by omega) (by omega) ?_
                  refine go_re 11 (.bool (decide ((fof l)[k] ∈ l.take (j + 1)))) (by show some (Value.bool _) = _; first | rw [in_next_yes g5] | rw [in_next_no (by omega) g5]) ?_
                  refine go_back (j + 1) ⟨rfl, rfl, rfl, rfl, rfl, rfl, rfl, rfl, rfl, rfl, rfl, rfl, rfl, rfl, rfl, rfl, rfl, trivial⟩ (by repeat constructor) (by repeat constructor) (by omega) (by omega)
                · intro g5
                  (try simp only [decide_eq_true_eq, decide_eq_false_iff_not, Bool.not_eq_true', Bool.not_eq_false', Bool.not_eq_eq_eq_not, Bool.not_true, Bool.not_false, Int.not_lt, Int.not_le, beq_iff_eq, beq_eq_false_iff_ne, ne_eq] at g5)
                  refine go_pure1 Tk rfl rfl rfl ?_
                  refine go_pure1 Tk rfl rfl rfl ?_
                  refine go_val1 rfl (idx_val Tk rfl rfl rfl rfl rfl (by omega)) rfl ?_
                  refine go_pure1 Tk rfl rfl rfl ?_
                  refine go_pure1 Tk rfl rfl rfl ?_
                  refine go_val1 rfl (idx_val Tk rfl rfl rfl rfl rfl (by omega)) rfl ?_
                  refine go_val2 rfl (load_val Tk rfl rfl rfl (by first | exact at_pt (by repeat constructor) (by rfl) | exact at_cl 0 (by repeat constructor) (by rfl) | exact at_cl 1 (by repeat constructor) (by rfl) | exact at_cl 2 (by repeat constructor) (by rfl) | exact at_cl 3 (by repeat constructor) (by rfl) | exact at_cl 4 (by repeat constructor) (by rfl) | exact at_cl 5 (by repeat constructor) (by rfl) | exact at_cl 6 (by repeat constructor) (by rfl) | exact at_cl 7 (by repeat constructor) (by rfl)) (by rfl)) (by repeat constructor) (by repeat constructor) rfl ?_
                  refine go_val2 rfl (load_val Tk rfl rfl rfl (by first | exact at_pt (by repeat constructor) (by rfl) | exact at_cl 0 (by repeat constructor) (by rfl) | exact at_cl 1 (by repeat constructor) (by rfl) | exact at_cl 2 (by repeat constructor) (by rfl) | exact at_cl 3 (by repeat constructor) (by rfl) | exact at_cl 4 (by repeat constructor) (by rfl) | exact at_cl 5 (by repeat constructor) (by rfl) | exact at_cl 6 (by repeat constructor) (by rfl) | exact at_cl 7 (by repeat constructor) (by rfl)) (by rfl)) (by repeat constructor) (by repeat constructor) rfl ?_
                  refine go_call (refSameFact _ _ _ _ _ _ _ _) rfl rfl (by rfl) rfl (by repeat constructor) (by repeat constructor) (fun h => nomatch h) ?_
                  rintro _ _ _ ⟨rfl, rfl, rfl⟩
                  refine go_pure1 Tk rfl rfl rfl ?_
                  refine go_pure1 Tk rfl rfl rfl ?_
                  refine go_nil ?_
                  refine go_env [(0, _), (5, _), (9, _), (10, _), (11, _), (12, _), (93, _), (94, _), (95, _), (96, _), (97, _), (98, _), (99, _), (100, _), (101, _), (102, _), (103, _), (113, _), (114, _), (115, _), (116, _), (117, _), (118, _), (119, _), (120, _), (121, _)] ⟨rfl, rfl, rfl, rfl, rfl, rfl, rfl, rfl, rfl, rfl, rfl, rfl, rfl, rfl, rfl, rfl, rfl, rfl, rfl, rfl, rfl, rfl, rfl, rfl, rfl, rfl, trivial⟩ ?_
                  refine go_blk ?_
                  refine go_region rfl ?_
                  refine go_pure0 Tk rfl rfl rfl ?_
                  refine go_pure0 Tk rfl rfl rfl ?_
                  refine go_pure0 Tk rfl rfl rfl ?_
                  refine go_nil ?_
                  refine go_i64 12 rfl (by omega) (by omega) ?_
                  refine go_re 11 (.bool (decide ((fof l)[k] ∈ l.take (j + 1)))) (by show some (Value.bool _) = _; first | rw [in_next_yes g5] | rw [in_next_no (by omega) g5]) ?_
                  refine go_back (j + 1) ⟨rfl, rfl, rfl, rfl, rfl, rfl, rfl, rfl, rfl, rfl, rfl, rfl, rfl, rfl, rfl, rfl, rfl, trivial⟩ (by repeat constructor) (by repeat constructor) (by omega) (by omega)
              · intro hq8
                refine go_exit rfl ?_
                refine go_seq ?_
                refine go_re 11 (.bool true) (by show some (Value.bool _) = _; rw [List.take_of_length_le (show l.length ≤ j by omega), decide_eq_true hxl]) ?_
                refine go_region rfl ?_
                refine go_pure0 Tk rfl rfl rfl ?_
                refine go_pure0 Tk rfl rfl rfl ?_
                refine go_pure0 Tk rfl rfl rfl ?_
                refine go_val0 rfl (idx_val Tk rfl rfl rfl rfl rfl (by omega)) rfl ?_
                refine go_val0 rfl (load_val Tk rfl rfl rfl (by first | exact at_pt (by repeat constructor) (by rfl) | exact at_cl 0 (by repeat constructor) (by rfl) | exact at_cl 1 (by repeat constructor) (by rfl) | exact at_cl 2 (by repeat constructor) (by rfl) | exact at_cl 3 (by repeat constructor) (by rfl) | exact at_cl 4 (by repeat constructor) (by rfl) | exact at_cl 5 (by repeat constructor) (by rfl) | exact at_cl 6 (by repeat constructor) (by rfl) | exact at_cl 7 (by repeat constructor) (by rfl)) (by rfl)) rfl ?_
                refine go_call (refLift (fof l)[k] A5 c5 (hBl _ hxl)) rfl rfl (by rfl) rfl (by repeat constructor) (by repeat constructor) (fun h => nomatch h) ?_
                rintro _ _ _ ⟨A7, c7, rfl, rfl, rfl⟩
                refine go_call (relFindN (some ⟨ba, 0, none⟩) (fof l) (lift (fof l)[k]) A7 c7 (lift_ok (gl _ hxl)) (by rw [lift_len]; exact Nat.le_trans (hBl _ hxl) (by omega)) Fl.n Fl.b) rfl rfl (by rfl) rfl (by repeat constructor) (by repeat constructor) (fun h => nomatch h) ?_
                rintro _ _ _ ⟨A8, c8, rfl, rfl, rfl⟩
                rw [find_lift (rises_fof l) hxf]
                refine go_freeze_dl (T := tFa) (A := A8) (by repeat constructor) ?_
                refine go_pure0 Tk rfl rfl rfl ?_
                refine go_nil ?_
                refine go_env [(0, _), (5, _), (9, _), (10, _), (11, _), (13, _), (93, _), (94, _), (95, _), (96, _), (97, _), (98, _), (99, _), (100, _), (101, _), (102, _), (103, _)] ⟨rfl, rfl, rfl, rfl, rfl, rfl, rfl, rfl, rfl, rfl, rfl, rfl, rfl, rfl, rfl, rfl, rfl, trivial⟩ ?_
                refine go_seq ?_
                refine go_elem_fa (xs := [(fof l)[k]]) (by repeat constructor) (0) (List.getElem?_eq_getElem (by simp)) (fun b9 o9 A9 c9 hA => ?_); cases hA
                refine go_draw'  [10, 14] (SL.pre [(1, 0), (1, 1), (1, 2), (1, 3), (1, 4), (1, 5), (1, 6), (1, 7), (1, 8), (1, 9), (1, 11), (1, 12), (1, 13), (2, 10), (2, 14), (0, 15), (1, 16), (1, 17)] .nil) mixed rfl (by kernel_rfl) ?_
                refine go_pure1 Tk rfl rfl rfl ?_
                refine go_re 130 (.bool true) (by show some (Value.bool _) = _; rfl) ?_
                refine go_pure1 Tk rfl rfl rfl ?_
                refine go_pure1 Tk rfl rfl rfl ?_
                refine go_pure1 Tk rfl rfl rfl ?_
                refine go_pure1 Tk rfl rfl rfl ?_
                refine go_pure1 Tk rfl rfl rfl ?_
                refine go_re 135 (.bool false) (by show some (Value.bool _) = _; first | rfl | simp) ?_
                refine go_pure1 Tk rfl rfl rfl ?_
                refine go_pure1 Tk rfl rfl rfl ?_
                refine go_pure1 Tk rfl rfl rfl ?_
                refine go_val1 rfl (idx_val Tk rfl rfl rfl rfl rfl (by simp)) rfl ?_
                refine go_pure1 Tk rfl rfl rfl ?_
                refine go_pure1 Tk rfl rfl rfl ?_
                refine go_val1 rfl (idx_val Tk rfl rfl rfl rfl rfl (by omega)) rfl ?_
                refine go_val2 rfl (load_val Tk rfl rfl rfl (by first | exact at_pt (by repeat constructor) (by rfl) | exact at_cl 0 (by repeat constructor) (by rfl) | exact at_cl 1 (by repeat constructor) (by rfl) | exact at_cl 2 (by repeat constructor) (by rfl) | exact at_cl 3 (by repeat constructor) (by rfl) | exact at_cl 4 (by repeat constructor) (by rfl) | exact at_cl 5 (by repeat constructor) (by rfl) | exact at_cl 6 (by repeat constructor) (by rfl) | exact at_cl 7 (by repeat constructor) (by rfl)) (by rfl)) (by repeat constructor) (by repeat constructor) rfl ?_
                refine go_val2 rfl (load_val Tk rfl rfl rfl (by first | exact at_pt (by repeat constructor) (by rfl) | exact at_cl 0 (by repeat constructor) (by rfl) | exact at_cl 1 (by repeat constructor) (by rfl) | exact at_cl 2 (by repeat constructor) (by rfl) | exact at_cl 3 (by repeat constructor) (by rfl) | exact at_cl 4 (by repeat constructor) (by rfl) | exact at_cl 5 (by repeat constructor) (by rfl) | exact at_cl 6 (by repeat constructor) (by rfl) | exact at_cl 7 (by repeat constructor) (by rfl)) (by rfl)) (by repeat constructor) (by repeat constructor) rfl ?_
                refine go_call (refSameFact _ _ _ _ _ _ _ _) rfl rfl (by rfl) rfl (by repeat constructor) (by repeat constructor) (fun h => nomatch h) ?_
                rintro _ _ _ ⟨rfl, rfl, rfl⟩
                refine go_pure1 Tk rfl rfl rfl ?_
                refine go_re 146 (.bool false) (by show some (Value.bool _) = _; simp [cmpF_self]) ?_
                refine go_pure1 Tk rfl rfl rfl ?_
                refine go_nil ?_
                refine go_env [(0, _), (5, _), (9, _), (10, _), (93, _), (94, _), (95, _), (96, _), (97, _), (98, _), (99, _), (100, _), (101, _), (102, _), (103, _), (133, _), (134, _), (135, _), (138, _), (139, _), (140, _), (141, _), (142, _), (143, _), (144, _), (145, _), (146, _), (147, _)] ⟨rfl, rfl, rfl, rfl, rfl, rfl, rfl, rfl, rfl, rfl, rfl, rfl, rfl, rfl, rfl, rfl, rfl, rfl, rfl, rfl, rfl, rfl, rfl, rfl, rfl, rfl, rfl, rfl, trivial⟩ ?_
                refine go_cond_f rfl ?_
                refine go_skip ?_
                refine go_blk ?_
                refine go_region rfl ?_
                refine go_pure0 Tk rfl rfl rfl ?_
                refine go_pure0 Tk rfl rfl rfl ?_
                refine go_pure0 Tk rfl rfl rfl ?_
                refine go_nil ?_
                refine go_i64 10 rfl (by omega) (by omega) ?_
                refine go_back (k + 1) ⟨rfl, rfl, rfl, rfl, trivial⟩ (by repeat constructor) (by repeat constructor) (by omega) (by omega)
            · skip
              refine go_elem_fa (xs := fof l) (c := c1) (by repeat constructor) (k) (List.getElem?_eq_getElem (by omega)) (fun b5 o5 A5 c5 hA => ?_); cases hA
              refine go_draw'  [7, 11] (SL.pre [(1, 0), (1, 1), (1, 2), (1, 3), (1, 4), (1, 5), (1, 6), (1, 8), (1, 9), (1, 10), (2, 7), (2, 11), (0, 12), (1, 13), (1, 14)] .nil) mixed rfl (by kernel_rfl) ?_
              refine go_pure1 Tk rfl rfl rfl ?_
              refine go_pure1 Tk rfl rfl rfl ?_
              refine go_re 91 (.bool false) (by show some _ = _; rw [decide_eq_false (by omega)]) ?_
              refine go_pure1 Tk rfl rfl rfl ?_
              refine go_skip1 rfl rfl ?_
              refine go_skip1 rfl rfl ?_
              refine go_skip1 rfl rfl ?_
              refine go_skip1 rfl rfl ?_
              refine go_skip1 rfl rfl ?_
              refine go_skip1 rfl rfl ?_
              refine go_skip1 rfl rfl ?_
              refine go_skip2 rfl (by repeat constructor) (by repeat constructor) rfl ?_
              refine go_skip2 rfl (by repeat constructor) (by repeat constructor) rfl ?_
              refine go_skip0 rfl rfl ?_
              refine go_skip1 rfl rfl ?_
              refine go_pure1 Tk rfl rfl rfl ?_
              refine go_nil ?_
              refine go_env [(0, _), (5, _), (9, _), (10, _), (93, _), (94, _), (95, _), (96, _), (97, _), (98, _), (99, _), (100, _), (101, _), (102, _), (103, _), (104, _)] ⟨rfl, rfl, rfl, rfl, rfl, rfl, rfl, rfl, rfl, rfl, rfl, rfl, rfl, rfl, rfl, rfl, trivial⟩ ?_
              refine go_cond_f rfl ?_
              refine go_skip ?_
              refine go_seq ?_
              have hxf : (fof l)[k] ∈ fof l := List.getElem_mem _
              have hxl : (fof l)[k] ∈ l := mem_fof.1 hxf
              refine go_region rfl ?_
              refine go_pure0 Tk rfl rfl rfl ?_
              refine go_re 11 (.bool (decide ((fof l)[k] ∈ l.take 0))) (by show some (Value.bool false) = _; simp) ?_
              refine go_nil ?_
              refine go_env [(0, _), (5, _), (9, _), (10, _), (11, _), (93, _), (94, _), (95, _), (96, _), (97, _), (98, _), (99, _), (100, _), (101, _), (102, _), (103, _)] ⟨rfl, rfl, rfl, rfl, rfl, rfl, rfl, rfl, rfl, rfl, rfl, rfl, rfl, rfl, rfl, rfl, trivial⟩ ?_
              refine go_seq ?_
              refine go_seq ?_
              refine go_region rfl ?_
              refine go_pure0 Tk rfl rfl rfl ?_
              refine go_nil ?_
              refine go_env [(0, _), (5, _), (9, _), (10, _), (11, _), (12, _), (93, _), (94, _), (95, _), (96, _), (97, _), (98, _), (99, _), (100, _), (101, _), (102, _), (103, _)] ⟨rfl, rfl, rfl, rfl, rfl, rfl, rfl, rfl, rfl, rfl, rfl, rfl, rfl, rfl, rfl, rfl, rfl, trivial⟩ ?_
              refine go_block ?_
              refine go_loop' (X := Nat) (fun j => [(11, .bool (decide ((fof l)[k] ∈ l.take j))), (12, .int .i64 (j : Int))]) [(0, _), (5, _), (9, _), (10, _), (93, _), (94, _), (95, _), (96, _), (97, _), (98, _), (99, _), (100, _), (101, _), (102, _), (103, _)] (fun _ => []) (fun j => j ≤ l.length) (fun j => l.length - j) (0) ⟨rfl, rfl, rfl, rfl, rfl, rfl, rfl, rfl, rfl, rfl, rfl, rfl, rfl, rfl, rfl, rfl, rfl, trivial⟩ (by repeat constructor) (by omega) ?_
              intro j hj
              refine go_seq ?_
              refine go_seq ?_
              refine go_region rfl ?_
              refine go_pure0 Tk rfl rfl rfl ?_
              refine go_pure0 Tk rfl rfl rfl ?_
              refine go_pure0 Tk rfl rfl rfl ?_
              refine go_pure0 Tk rfl rfl rfl ?_
              refine go_nil ?_
              refine go_env [(0, _), (5, _), (9, _), (10, _), (11, _), (12, _), (93, _), (94, _), (95, _), (96, _), (97, _), (98, _), (99, _), (100, _), (101, _), (102, _), (103, _), (108, _)] ⟨rfl, rfl, rfl, rfl, rfl, rfl, rfl, rfl, rfl, rfl, rfl, rfl, rfl, rfl, rfl, rfl, rfl, rfl, trivial⟩ ?_
              refine go_condD rfl ?_ ?_
              · intro hq9
                refine go_skip ?_
                refine go_seq ?_
                refine go_block ?_
                refine go_elem_fa (xs := l) (by repeat constructor) (j) (List.getElem?_eq_getElem (by omega)) (fun b6 o6 A6 c6 hA => ?_); cases hA
                refine go_draw'  [5, 9] (SL.pre [(1, 0), (1, 1), (1, 2), (1, 3), (1, 4), (1, 6), (1, 7), (1, 8), (2, 5), (2, 9), (0, 10), (1, 11), (1, 12)] .nil) mixed rfl (by kernel_rfl) ?_
                refine go_pure1 Tk rfl rfl rfl ?_
                refine go_pure1 Tk rfl rfl rfl ?_
                refine go_known 112 rfl ?_ ?_
                · intro g5
                  (try simp only [decide_eq_true_eq, decide_eq_false_iff_not, Bool.not_eq_true', Bool.not_eq_false', Bool.not_eq_eq_eq_not, Bool.not_true, Bool.not_false, Int.not_lt, Int.not_le, beq_iff_eq, beq_eq_false_iff_ne, ne_eq] at g5)
                  refine go_skip1 rfl rfl ?_
                  refine go_skip1 rfl rfl ?_
                  refine go_skip1 rfl rfl ?_
                  refine go_skip1 rfl rfl ?_
                  refine go_skip1 rfl rfl ?_
                  refine go_skip1 rfl rfl ?_
                  refine go_skip2 rfl (by repeat constructor) (by repeat constructor) rfl ?_
                  refine go_skip2 rfl (by repeat constructor) (by repeat constructor) rfl ?_
                  refine go_skip0 rfl rfl ?_
                  refine go_pure1 Tk rfl rfl rfl ?_
                  refine go_pure1 Tk rfl rfl rfl ?_
                  refine go_nil ?_
                  refine go_env [(0, _), (5, _), (9, _), (10, _), (11, _), (12, _), (93, _), (94, _), (95, _), (96, _), (97, _), (98, _), (99, _), (100, _), (101, _), (102, _), (103, _), (113, _), (114, _), (115, _), (116, _), (117, _), (118, _), (119, _), (120, _), (121, _)] ⟨rfl, rfl, rfl, rfl, rfl, rfl, rfl, rfl, rfl, rfl, rfl, rfl, rfl, rfl, rfl, rfl, rfl, rfl, rfl, rfl, rfl, rfl, rfl, rfl, rfl, rfl, trivial⟩ ?_
                  refine go_blk ?_
                  refine go_region rfl ?_
                  refine go_pure0 Tk rfl rfl rfl ?_
                  refine go_pure0 Tk rfl rfl rfl ?_
                  refine go_pure0 Tk rfl rfl rfl ?_
                  refine go_nil ?_
                  refine go_i64 12 rfl (by omega) (by omega) ?_
                  refine go_re 11 (.bool (decide ((fof l)[k] ∈ l.take (j + 1)))) (by show some (Value.bool _) = _; first | rw [in_next_yes g5] | rw [in_next_no (by omega) g5]) ?_
                  refine go_back (j + 1) ⟨rfl, rfl, rfl, rfl, rfl, rfl, rfl, rfl, rfl, rfl, rfl, rfl, rfl, rfl, rfl, rfl, rfl, trivial⟩ (by repeat constructor) (by repeat constructor) (by omega) (by omega)
                · intro g5
                  (try simp only [decide_eq_true_eq, decide_eq_false_iff_not, Bool.not_eq_true', Bool.not_eq_false', Bool.not_eq_eq_eq_not, Bool.not_true, Bool.not_false, Int.not_lt, Int.not_le, beq_iff_eq, beq_eq_false_iff_ne, ne_eq] at g5)
                  refine go_pure1 Tk rfl rfl rfl ?_
                  refine go_pure1 Tk rfl rfl rfl ?_
                  refine go_val1 rfl (idx_val Tk rfl rfl rfl rfl rfl (by omega)) rfl ?_
                  refine go_pure1 Tk rfl rfl rfl ?_
                  refine go_pure1 Tk rfl rfl rfl ?_
                  refine go_val1 rfl (idx_val Tk rfl rfl rfl rfl rfl (by omega)) rfl ?_
                  refine go_val2 rfl (load_val Tk rfl rfl rfl (by first | exact at_pt (by repeat constructor) (by rfl) | exact at_cl 0 (by repeat constructor) (by rfl) | exact at_cl 1 (by repeat constructor) (by rfl) | exact at_cl 2 (by repeat constructor) (by rfl) | exact at_cl 3 (by repeat constructor) (by rfl) | exact at_cl 4 (by repeat constructor) (by rfl) | exact at_cl 5 (by repeat constructor) (by rfl) | exact at_cl 6 (by repeat constructor) (by rfl) | exact at_cl 7 (by repeat constructor) (by rfl)) (by rfl)) (by repeat constructor) (by repeat constructor) rfl ?_
                  refine go_val2 rfl (load_val Tk rfl rfl rfl (by first | exact at_pt (by repeat constructor) (by rfl) | exact at_cl 0 (by repeat constructor) (by rfl) | exact at_cl 1 (by repeat constructor) (by rfl) | exact at_cl 2 (by repeat constructor) (by rfl) | exact at_cl 3 (by repeat constructor) (by rfl) | exact at_cl 4 (by repeat constructor) (by rfl) | exact at_cl 5 (by repeat constructor) (by rfl) | exact at_cl 6 (by repeat constructor) (by rfl) | exact at_cl 7 (by repeat constructor) (by rfl)) (by rfl)) (by repeat constructor) (by repeat constructor) rfl ?_
                  refine go_call (refSameFact _ _ _ _ _ _ _ _) rfl rfl (by rfl) rfl (by repeat constructor) (by repeat constructor) (fun h => nomatch h) ?_
                  rintro _ _ _ ⟨rfl, rfl, rfl⟩
                  refine go_pure1 Tk rfl rfl rfl ?_
                  refine go_pure1 Tk rfl rfl rfl ?_
                  refine go_nil ?_
                  refine go_env [(0, _), (5, _), (9, _), (10, _), (11, _), (12, _), (93, _), (94, _), (95, _), (96, _), (97, _), (98, _), (99, _), (100, _), (101, _), (102, _), (103, _), (113, _), (114, _), (115, _), (116, _), (117, _), (118, _), (119, _), (120, _), (121, _)] ⟨rfl, rfl, rfl, rfl, rfl, rfl, rfl, rfl, rfl, rfl, rfl, rfl, rfl, rfl, rfl, rfl, rfl, rfl, rfl, rfl, rfl, rfl, rfl, rfl, rfl, rfl, trivial⟩ ?_
                  refine go_blk ?_
                  refine go_region rfl ?_
                  refine go_pure0 Tk rfl rfl rfl ?_
                  refine go_pure0 Tk rfl rfl rfl ?_
                  refine go_pure0 Tk rfl rfl rfl ?_
                  refine go_nil ?_
                  refine go_i64 12 rfl (by omega) (by omega) ?_
                  refine go_re 11 (.bool (decide ((fof l)[k] ∈ l.take (j + 1)))) (by show some (Value.bool _) = _; first | rw [in_next_yes g5] | rw [in_next_no (by omega) g5]) ?_
                  refine go_back (j + 1) ⟨rfl, rfl, rfl, rfl, rfl, rfl, rfl, rfl, rfl, rfl, rfl, rfl, rfl, rfl, rfl, rfl, rfl, trivial⟩ (by repeat constructor) (by repeat constructor) (by omega) (by omega)
              · intro hq9
                refine go_exit rfl ?_
                refine go_seq ?_
                refine go_re 11 (.bool true) (by show some (Value.bool _) = _; rw [List.take_of_length_le (show l.length ≤ j by omega), decide_eq_true hxl]) ?_
                refine go_region rfl ?_
                refine go_pure0 Tk rfl rfl rfl ?_
                refine go_pure0 Tk rfl rfl rfl ?_
                refine go_pure0 Tk rfl rfl rfl ?_
                refine go_val0 rfl (idx_val Tk rfl rfl rfl rfl rfl (by omega)) rfl ?_
                refine go_val0 rfl (load_val Tk rfl rfl rfl (by first | exact at_pt (by repeat constructor) (by rfl) | exact at_cl 0 (by repeat constructor) (by rfl) | exact at_cl 1 (by repeat constructor) (by rfl) | exact at_cl 2 (by repeat constructor) (by rfl) | exact at_cl 3 (by repeat constructor) (by rfl) | exact at_cl 4 (by repeat constructor) (by rfl) | exact at_cl 5 (by repeat constructor) (by rfl) | exact at_cl 6 (by repeat constructor) (by rfl) | exact at_cl 7 (by repeat constructor) (by rfl)) (by rfl)) rfl ?_
                refine go_call (refLift (fof l)[k] A5 c5 (hBl _ hxl)) rfl rfl (by rfl) rfl (by repeat constructor) (by repeat constructor) (fun h => nomatch h) ?_
                rintro _ _ _ ⟨A7, c7, rfl, rfl, rfl⟩
                refine go_call (relFindN (some ⟨ba, 0, none⟩) (fof l) (lift (fof l)[k]) A7 c7 (lift_ok (gl _ hxl)) (by rw [lift_len]; exact Nat.le_trans (hBl _ hxl) (by omega)) Fl.n Fl.b) rfl rfl (by rfl) rfl (by repeat constructor) (by repeat constructor) (fun h => nomatch h) ?_
                rintro _ _ _ ⟨A8, c8, rfl, rfl, rfl⟩
                rw [find_lift (rises_fof l) hxf]
                refine go_freeze_dl (T := tFa) (A := A8) (by repeat constructor) ?_
                refine go_pure0 Tk rfl rfl rfl ?_
                refine go_nil ?_
                refine go_env [(0, _), (5, _), (9, _), (10, _), (11, _), (13, _), (93, _), (94, _), (95, _), (96, _), (97, _), (98, _), (99, _), (100, _), (101, _), (102, _), (103, _)] ⟨rfl, rfl, rfl, rfl, rfl, rfl, rfl, rfl, rfl, rfl, rfl, rfl, rfl, rfl, rfl, rfl, rfl, trivial⟩ ?_
                refine go_seq ?_
                refine go_elem_fa (xs := [(fof l)[k]]) (by repeat constructor) (0) (List.getElem?_eq_getElem (by simp)) (fun b9 o9 A9 c9 hA => ?_); cases hA
                refine go_draw'  [10, 14] (SL.pre [(1, 0), (1, 1), (1, 2), (1, 3), (1, 4), (1, 5), (1, 6), (1, 7), (1, 8), (1, 9), (1, 11), (1, 12), (1, 13), (2, 10), (2, 14), (0, 15), (1, 16), (1, 17)] .nil) mixed rfl (by kernel_rfl) ?_
                refine go_pure1 Tk rfl rfl rfl ?_
                refine go_re 130 (.bool true) (by show some (Value.bool _) = _; rfl) ?_
                refine go_pure1 Tk rfl rfl rfl ?_
                refine go_pure1 Tk rfl rfl rfl ?_
                refine go_pure1 Tk rfl rfl rfl ?_
                refine go_pure1 Tk rfl rfl rfl ?_
                refine go_pure1 Tk rfl rfl rfl ?_
                refine go_re 135 (.bool false) (by show some (Value.bool _) = _; first | rfl | simp) ?_
                refine go_pure1 Tk rfl rfl rfl ?_
                refine go_pure1 Tk rfl rfl rfl ?_
                refine go_pure1 Tk rfl rfl rfl ?_
                refine go_val1 rfl (idx_val Tk rfl rfl rfl rfl rfl (by simp)) rfl ?_
                refine go_pure1 Tk rfl rfl rfl ?_
                refine go_pure1 Tk rfl rfl rfl ?_
                refine go_val1 rfl (idx_val Tk rfl rfl rfl rfl rfl (by omega)) rfl ?_
                refine go_val2 rfl (load_val Tk rfl rfl rfl (by first | exact at_pt (by repeat constructor) (by rfl) | exact at_cl 0 (by repeat constructor) (by rfl) | exact at_cl 1 (by repeat constructor) (by rfl) | exact at_cl 2 (by repeat constructor) (by rfl) | exact at_cl 3 (by repeat constructor) (by rfl) | exact at_cl 4 (by repeat constructor) (by rfl) | exact at_cl 5 (by repeat constructor) (by rfl) | exact at_cl 6 (by repeat constructor) (by rfl) | exact at_cl 7 (by repeat constructor) (by rfl)) (by rfl)) (by repeat constructor) (by repeat constructor) rfl ?_
                refine go_val2 rfl (load_val Tk rfl rfl rfl (by first | exact at_pt (by repeat constructor) (by rfl) | exact at_cl 0 (by repeat constructor) (by rfl) | exact at_cl 1 (by repeat constructor) (by rfl) | exact at_cl 2 (by repeat constructor) (by rfl) | exact at_cl 3 (by repeat constructor) (by rfl) | exact at_cl 4 (by repeat constructor) (by rfl) | exact at_cl 5 (by repeat constructor) (by rfl) | exact at_cl 6 (by repeat constructor) (by rfl) | exact at_cl 7 (by repeat constructor) (by rfl)) (by rfl)) (by repeat constructor) (by repeat constructor) rfl ?_
                refine go_call (refSameFact _ _ _ _ _ _ _ _) rfl rfl (by rfl) rfl (by repeat constructor) (by repeat constructor) (fun h => nomatch h) ?_
                rintro _ _ _ ⟨rfl, rfl, rfl⟩
                refine go_pure1 Tk rfl rfl rfl ?_
                refine go_re 146 (.bool false) (by show some (Value.bool _) = _; simp [cmpF_self]) ?_
                refine go_pure1 Tk rfl rfl rfl ?_
                refine go_nil ?_
                refine go_env [(0, _), (5, _), (9, _), (10, _), (93, _), (94, _), (95, _), (96, _), (97, _), (98, _), (99, _), (100, _), (101, _), (102, _), (103, _), (133, _), (134, _), (135, _), (138, _), (139, _), (140, _), (141, _), (142, _), (143, _), (144, _), (145, _), (146, _), (147, _)] ⟨rfl, rfl, rfl, rfl, rfl, rfl, rfl, rfl, rfl, rfl, rfl, rfl, rfl, rfl, rfl, rfl, rfl, rfl, rfl, rfl, rfl, rfl, rfl, rfl, rfl, rfl, rfl, rfl, trivial⟩ ?_
                refine go_cond_f rfl ?_
                refine go_skip ?_
                refine go_blk ?_
                refine go_region rfl ?_
                refine go_pure0 Tk rfl rfl rfl ?_
                refine go_pure0 Tk rfl rfl rfl ?_
                refine go_pure0 Tk rfl rfl rfl ?_
                refine go_nil ?_
                refine go_i64 10 rfl (by omega) (by omega) ?_
                refine go_back (k + 1) ⟨rfl, rfl, rfl, rfl, trivial⟩ (by repeat constructor) (by repeat constructor) (by omega) (by omega)
          · intro hq7
            refine go_exit rfl ?_
            refine go_seq ?_
            refine go_seq ?_
            refine go_region rfl ?_
            refine go_pure0 Tk rfl rfl rfl ?_
            refine go_nil ?_
            refine go_env [(0, _), (5, _), (14, _)] ⟨rfl, rfl, rfl, trivial⟩ ?_
            refine go_block ?_
            refine go_loop' (X := Nat) (fun k => [(14, .int .i64 (k : Int))]) [(0, _), (5, _)] (fun _ => []) (fun k => k ≤ l.length) (fun k => l.length - k) (0) ⟨rfl, rfl, rfl, trivial⟩ (by repeat constructor) (by omega) ?_
            intro k hk
            refine go_seq ?_
            refine go_seq ?_
            refine go_region rfl ?_
            refine go_pure0 Tk rfl rfl rfl ?_
            refine go_pure0 Tk rfl rfl rfl ?_
            refine go_pure0 Tk rfl rfl rfl ?_
            refine go_pure0 Tk rfl rfl rfl ?_
            refine go_nil ?_
            refine go_env [(0, _), (5, _), (14, _), (151, _)] ⟨rfl, rfl, rfl, rfl, trivial⟩ ?_
            refine go_condD rfl ?_ ?_
            · intro hq10
              refine go_skip ?_
              refine go_seq ?_
              refine go_block ?_
              refine go_seq ?_
              refine go_elem_fa (xs := l) (by repeat constructor) (k) (List.getElem?_eq_getElem (by omega)) (fun b2 o2 A2 c2 hA => ?_); cases hA
              refine go_region rfl ?_
              refine go_pure0 Tk rfl rfl rfl ?_
              refine go_pure0 Tk rfl rfl rfl ?_
              refine go_pure0 Tk rfl rfl rfl ?_
              refine go_val0 rfl (idx_val Tk rfl rfl rfl rfl rfl (by omega)) rfl ?_
              refine go_val0 rfl (load_val Tk rfl rfl rfl (by first | exact at_pt (by repeat constructor) (by rfl) | exact at_cl 0 (by repeat constructor) (by rfl) | exact at_cl 1 (by repeat constructor) (by rfl) | exact at_cl 2 (by repeat constructor) (by rfl) | exact at_cl 3 (by repeat constructor) (by rfl) | exact at_cl 4 (by repeat constructor) (by rfl) | exact at_cl 5 (by repeat constructor) (by rfl) | exact at_cl 6 (by repeat constructor) (by rfl) | exact at_cl 7 (by repeat constructor) (by rfl)) (by rfl)) rfl ?_
              refine go_call (relHasP ba (fof l) l[k] A2 c2 Fl.r Fl.n) rfl rfl (by rfl) rfl (by repeat constructor) (by repeat constructor) (fun h => nomatch h) ?_
              rintro _ _ _ ⟨rfl, rfl, rfl⟩
              refine go_pure0 Tk rfl rfl rfl ?_
              refine go_re 160 (.bool false) (by show some (Value.bool _) = _; simp [mem_fof]) ?_
              refine go_nil ?_
              refine go_env [(0, _), (5, _), (14, _), (160, _)] ⟨rfl, rfl, rfl, rfl, trivial⟩ ?_
              refine go_cond_f rfl ?_
              refine go_skip ?_
              refine go_blk ?_
              refine go_region rfl ?_
              refine go_pure0 Tk rfl rfl rfl ?_
              refine go_pure0 Tk rfl rfl rfl ?_
              refine go_pure0 Tk rfl rfl rfl ?_
              refine go_nil ?_
              refine go_i64 14 rfl (by omega) (by omega) ?_
              refine go_back (k + 1) ⟨rfl, rfl, rfl, trivial⟩ (by repeat constructor) (by repeat constructor) (by omega) (by omega)
            · intro hq10
              refine go_exit rfl ?_
              refine go_seq ?_
              refine go_region rfl ?_
              refine go_call (lawWorks10) rfl rfl (by rfl) rfl (by repeat constructor) (by repeat constructor) (fun h => nomatch h) ?_
              rintro _ _ _ ⟨rfl, rfl, rfl⟩
              refine go_pure0 Tk rfl rfl rfl ?_
              refine go_nil ?_
              refine go_env [(4, _)] ⟨rfl, trivial⟩ ?_
              refine go_ret ⟨rfl, rfl⟩ _ _ (fun a w hp ho hf hs => res1 (by rfl) (.tmp rfl) a w hp ho hf hs) ⟨rfl, rfl, rfl⟩ (by repeat constructor) (by repeat constructor)

end Go.Proofs.Ytdkfpgdfjnaciaa.SL
