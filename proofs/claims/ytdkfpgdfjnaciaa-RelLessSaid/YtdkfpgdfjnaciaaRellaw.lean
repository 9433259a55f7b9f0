/- Contracts of functions of the program (Rellaw): what each call comes to, for the laws' proofs. -/
import Derived.Test.YtdkfpgdfjnaciaaRelr
import Derived.Test.YtdkfpgdfjnaciaaD8
set_option linter.unusedVariables false
set_option linter.unusedSimpArgs false
namespace Go.Proofs.Ytdkfpgdfjnaciaa.SL
open Go 

set_option maxHeartbeats 2000000 in
set_option maxRecDepth 20000 in
theorem lawRelNil (q : Fa) (QA : Option Addr) (qc : Nat) (gq : q.ok) (a : Am) (AA : Option Addr) (ac : Nat) (ga : a.ok) (l : List Fa) (LA : Option Addr) (lc : Nat) (gl : ∀ x ∈ l, x.ok) :
    Spec Try.prog 12 #[.agg #[.int .u32 q.p, .slice QA q.a.length qc], .agg #[.int .u32 a.p, .slice AA a.a.length ac], .slice LA l.length lc] [sl tU QA qc q.a, sl tTm AA ac a.a, sl tFa LA lc l] [] (fun v Ps' Os' => v = .bool true ∧ Ps' = [] ∧ Os' = []) := by
  refine spec_of (fn := Try.f12) (args := [.agg #[.int .u32 q.p, .slice QA q.a.length qc], .agg #[.int .u32 a.p, .slice AA a.a.length ac], .slice LA l.length lc]) 73 Try.func12 rfl (by kernel_rfl) Try.ntmps12 (Nat.le_of_ble_eq_true rfl) (fun w0 hp0 hf0 => ?_)
  refine go_seq ?_
  refine go_len (xs := q.a) (by repeat constructor) (fun l0 m0 => ?_)
  refine go_region rfl ?_
  refine go_box Tk rfl rfl rfl rfl (by rfl) rfl rfl (fun h => nomatch h) ?_
  intro b1
  refine go_box Tk rfl rfl rfl rfl (by rfl) rfl rfl (fun h => nomatch h) ?_
  intro b2
  refine go_pure0 Tk rfl rfl rfl ?_
  refine go_nil ?_
  refine go_env [(2, _), (3, _), (4, _)] ⟨rfl, rfl, rfl, trivial⟩ ?_
  refine go_seq ?_
  refine go_seq ?_
  refine go_region rfl ?_
  refine go_pure0 Tk rfl rfl rfl ?_
  refine go_call (lawFew LA lc l) rfl rfl (by rfl) rfl (by repeat constructor) (by repeat constructor) (fun h => nomatch h) ?_
  rintro _ _ _ ⟨rfl, rfl, rfl⟩
  refine go_pure0 Tk rfl rfl rfl ?_
  refine go_pure0 Tk rfl rfl rfl ?_
  refine go_known 12 rfl ?_ ?_
  · intro f1
    (try simp only [decide_eq_true_eq, decide_eq_false_iff_not, Bool.not_eq_true', Bool.not_eq_false', Bool.not_eq_eq_eq_not, Bool.not_true, Bool.not_false, Int.not_lt, Int.not_le, beq_iff_eq, beq_eq_false_iff_ne, ne_eq] at f1)
    refine go_skip0 rfl rfl ?_
    refine go_skip0 rfl rfl ?_
    refine go_skip0 rfl rfl ?_
    refine go_skip0 rfl rfl ?_
    refine go_pure0 Tk rfl rfl rfl ?_
    refine go_pure0 Tk rfl rfl rfl ?_
    refine go_skip0 rfl rfl ?_
    refine go_skip0 rfl rfl ?_
    refine go_pure0 Tk rfl rfl rfl ?_
    refine go_nil ?_
    refine go_env [(2, _), (3, _), (4, _), (21, _)] ⟨rfl, rfl, rfl, rfl, trivial⟩ ?_
    refine go_cond_t rfl ?_
    refine go_seq ?_
    refine go_region rfl ?_
    refine go_call (lawWorks10) rfl rfl (by rfl) rfl (by repeat constructor) (by repeat constructor) (fun h => nomatch h) ?_
    rintro _ _ _ ⟨rfl, rfl, rfl⟩
    refine go_pure0 Tk rfl rfl rfl ?_
    refine go_nil ?_
    refine go_env [(6, _)] ⟨rfl, trivial⟩ ?_
    refine go_ret ⟨rfl, rfl⟩ _ _ (fun a w hp ho hf hs => res1 (by rfl) (.tmp rfl) a w hp ho hf hs) ⟨rfl, rfl, rfl⟩ (by repeat constructor) (by repeat constructor)
  · intro f1
    (try simp only [decide_eq_true_eq, decide_eq_false_iff_not, Bool.not_eq_true', Bool.not_eq_false', Bool.not_eq_eq_eq_not, Bool.not_true, Bool.not_false, Int.not_lt, Int.not_le, beq_iff_eq, beq_eq_false_iff_ne, ne_eq] at f1)
    refine go_pure0 Tk rfl rfl rfl ?_
    refine go_val0 rfl (load_val Tk rfl rfl rfl (by first | exact at_pt (by repeat constructor) (by rfl) | exact at_cl 0 (by repeat constructor) (by rfl) | exact at_cl 1 (by repeat constructor) (by rfl) | exact at_cl 2 (by repeat constructor) (by rfl) | exact at_cl 3 (by repeat constructor) (by rfl) | exact at_cl 4 (by repeat constructor) (by rfl) | exact at_cl 5 (by repeat constructor) (by rfl) | exact at_cl 6 (by repeat constructor) (by rfl) | exact at_cl 7 (by repeat constructor) (by rfl)) (by rfl)) rfl ?_
    refine go_pure0 Tk rfl rfl rfl ?_
    refine go_pure0 Tk rfl rfl rfl ?_
    refine go_pure0 Tk rfl rfl rfl ?_
    refine go_pure0 Tk rfl rfl rfl ?_
    refine go_known 18 rfl ?_ ?_
    · intro f2
      (try simp only [decide_eq_true_eq, decide_eq_false_iff_not, Bool.not_eq_true', Bool.not_eq_false', Bool.not_eq_eq_eq_not, Bool.not_true, Bool.not_false, Int.not_lt, Int.not_le, beq_iff_eq, beq_eq_false_iff_ne, ne_eq] at f2)
      refine go_skip0 rfl rfl ?_
      refine go_skip0 rfl rfl ?_
      refine go_pure0 Tk rfl rfl rfl ?_
      refine go_nil ?_
      refine go_env [(2, _), (3, _), (4, _), (21, _)] ⟨rfl, rfl, rfl, rfl, trivial⟩ ?_
      refine go_cond_t rfl ?_
      refine go_seq ?_
      refine go_region rfl ?_
      refine go_call (lawWorks10) rfl rfl (by rfl) rfl (by repeat constructor) (by repeat constructor) (fun h => nomatch h) ?_
      rintro _ _ _ ⟨rfl, rfl, rfl⟩
      refine go_pure0 Tk rfl rfl rfl ?_
      refine go_nil ?_
      refine go_env [(6, _)] ⟨rfl, trivial⟩ ?_
      refine go_ret ⟨rfl, rfl⟩ _ _ (fun a w hp ho hf hs => res1 (by rfl) (.tmp rfl) a w hp ho hf hs) ⟨rfl, rfl, rfl⟩ (by repeat constructor) (by repeat constructor)
    · intro f2
      (try simp only [decide_eq_true_eq, decide_eq_false_iff_not, Bool.not_eq_true', Bool.not_eq_false', Bool.not_eq_eq_eq_not, Bool.not_true, Bool.not_false, Int.not_lt, Int.not_le, beq_iff_eq, beq_eq_false_iff_ne, ne_eq] at f2)
      refine go_val0 rfl (load_val Tk rfl rfl rfl (by first | exact at_pt (by repeat constructor) (by rfl) | exact at_cl 0 (by repeat constructor) (by rfl) | exact at_cl 1 (by repeat constructor) (by rfl) | exact at_cl 2 (by repeat constructor) (by rfl) | exact at_cl 3 (by repeat constructor) (by rfl) | exact at_cl 4 (by repeat constructor) (by rfl) | exact at_cl 5 (by repeat constructor) (by rfl) | exact at_cl 6 (by repeat constructor) (by rfl) | exact at_cl 7 (by repeat constructor) (by rfl)) (by rfl)) rfl ?_
      refine go_call (refBig a AA ac) rfl rfl (by rfl) rfl (by repeat constructor) (by repeat constructor) (fun h => nomatch h) ?_
      rintro _ _ _ ⟨rfl, rfl, rfl⟩
      refine go_pure0 Tk rfl rfl rfl ?_
      refine go_nil ?_
      refine go_env [(2, _), (3, _), (4, _), (21, _)] ⟨rfl, rfl, rfl, rfl, trivial⟩ ?_
      refine go_cond rfl ?_ ?_
      · intro f3
        (try simp only [decide_eq_true_eq, decide_eq_false_iff_not, Bool.not_eq_true', Bool.not_eq_false', Bool.not_eq_eq_eq_not, Bool.not_true, Bool.not_false, Int.not_lt, Int.not_le, beq_iff_eq, beq_eq_false_iff_ne, ne_eq] at f3)
        refine go_seq ?_
        refine go_region rfl ?_
        refine go_call (lawWorks10) rfl rfl (by rfl) rfl (by repeat constructor) (by repeat constructor) (fun h => nomatch h) ?_
        rintro _ _ _ ⟨rfl, rfl, rfl⟩
        refine go_pure0 Tk rfl rfl rfl ?_
        refine go_nil ?_
        refine go_env [(6, _)] ⟨rfl, trivial⟩ ?_
        refine go_ret ⟨rfl, rfl⟩ _ _ (fun a w hp ho hf hs => res1 (by rfl) (.tmp rfl) a w hp ho hf hs) ⟨rfl, rfl, rfl⟩ (by repeat constructor) (by repeat constructor)
      · intro f3
        (try simp only [decide_eq_true_eq, decide_eq_false_iff_not, Bool.not_eq_true', Bool.not_eq_false', Bool.not_eq_eq_eq_not, Bool.not_true, Bool.not_false, Int.not_lt, Int.not_le, beq_iff_eq, beq_eq_false_iff_ne, ne_eq] at f3)
        refine go_skip ?_
        refine go_seq ?_
        have fl : fewF l = true := f1
        obtain ⟨hnl, hbl⟩ := fewF_iff.1 fl
        have hNl : l.length ≤ 1000000 := by omega
        have hBl : ∀ x ∈ l, x.a.length ≤ 100000 := fun x hx => Nat.le_trans (hbl x hx) (by omega)
        have hFl : (fof l).length ≤ 1000000 := Nat.le_trans (fof_len l) (by omega)
        have hGl : ∀ x ∈ fof l, x.a.length ≤ 100000 := fun x hx => hBl x (mem_fof.1 hx)
        have ha : ∀ t ∈ a.a, 0 ≤ t.n := fun t ht => (ga.2 t ht).1
        have hm : a.a.length ≤ 1000000 := by omega
        refine go_ent (relN none []) (fun _ _ => relN_nil) ?_
        refine go_region rfl ?_
        refine go_pure0 Tk rfl rfl rfl ?_
        refine go_nil ?_
        refine go_env [(2, _), (3, _), (4, _), (7, _)] ⟨rfl, rfl, rfl, rfl, trivial⟩ ?_
        refine go_seq ?_
        refine go_region rfl ?_
        refine go_pure0 Tk rfl rfl rfl ?_
        refine go_pure0 Tk rfl rfl rfl ?_
        refine go_call (relOf LA lc l hNl hBl) rfl rfl (by rfl) rfl (by repeat constructor) (by repeat constructor) (fun h => nomatch h) ?_
        rintro _ _ _ ⟨bl, rfl, rfl, rfl⟩
        refine go_freeze_rel (b := bl) (by repeat constructor) ?_
        refine go_ent (relN (some ⟨bl, 0, none⟩) (fof l)) (fun hh hps => relN_some (hps (relP bl (fof l)) (by repeat constructor))) ?_
        refine go_call (relLessN none [] (some ⟨bl, 0, none⟩) (fof l) (rises_fof l) hFl (by simp) (by simp)) rfl rfl (by rfl) rfl (by repeat constructor) (by repeat constructor) (fun h => nomatch h) ?_
        rintro _ _ _ ⟨bx, rfl, rfl, rfl⟩
        refine go_relD (b := bx) (by repeat constructor) ?_
        rw [show less [] (fof l) = [] from rfl]
        refine go_pure0 Tk rfl rfl rfl ?_
        refine go_nil ?_
        refine go_env [(3, _), (4, _), (7, _), (8, _)] ⟨rfl, rfl, rfl, rfl, trivial⟩ ?_
        refine go_seq ?_
        refine go_region rfl ?_
        refine go_pure0 Tk rfl rfl rfl ?_
        refine go_val0 rfl (load_val Tk rfl rfl rfl (by first | exact at_pt (by repeat constructor) (by rfl) | exact at_cl 0 (by repeat constructor) (by rfl) | exact at_cl 1 (by repeat constructor) (by rfl) | exact at_cl 2 (by repeat constructor) (by rfl) | exact at_cl 3 (by repeat constructor) (by rfl) | exact at_cl 4 (by repeat constructor) (by rfl) | exact at_cl 5 (by repeat constructor) (by rfl) | exact at_cl 6 (by repeat constructor) (by rfl) | exact at_cl 7 (by repeat constructor) (by rfl)) (by rfl)) rfl ?_
        refine go_call (relPut0 q QA qc) rfl rfl (by rfl) rfl (by repeat constructor) (by repeat constructor) (fun h => nomatch h) ?_
        rintro _ _ _ ⟨rfl, rfl, rfl⟩
        refine go_pure0 Tk rfl rfl rfl ?_
        refine go_re 30 (.bool true) (by show some (Value.bool _) = _; first | rfl | simp) ?_
        refine go_pure0 Tk rfl rfl rfl ?_
        refine go_pure0 Tk rfl rfl rfl ?_
        refine go_val0 rfl (load_val Tk rfl rfl rfl (by first | exact at_pt (by repeat constructor) (by rfl) | exact at_cl 0 (by repeat constructor) (by rfl) | exact at_cl 1 (by repeat constructor) (by rfl) | exact at_cl 2 (by repeat constructor) (by rfl) | exact at_cl 3 (by repeat constructor) (by rfl) | exact at_cl 4 (by repeat constructor) (by rfl) | exact at_cl 5 (by repeat constructor) (by rfl) | exact at_cl 6 (by repeat constructor) (by rfl) | exact at_cl 7 (by repeat constructor) (by rfl)) (by rfl)) rfl ?_
        refine go_call (relCut0 q QA qc) rfl rfl (by rfl) rfl (by repeat constructor) (by repeat constructor) (fun h => nomatch h) ?_
        rintro _ _ _ ⟨rfl, rfl, rfl⟩
        refine go_pure0 Tk rfl rfl rfl ?_
        refine go_re 35 (.bool true) (by show some (Value.bool _) = _; first | rfl | simp) ?_
        refine go_pure0 Tk rfl rfl rfl ?_
        refine go_pure0 Tk rfl rfl rfl ?_
        refine go_pure0 Tk rfl rfl rfl ?_
        refine go_val0 rfl (load_val Tk rfl rfl rfl (by first | exact at_pt (by repeat constructor) (by rfl) | exact at_cl 0 (by repeat constructor) (by rfl) | exact at_cl 1 (by repeat constructor) (by rfl) | exact at_cl 2 (by repeat constructor) (by rfl) | exact at_cl 3 (by repeat constructor) (by rfl) | exact at_cl 4 (by repeat constructor) (by rfl) | exact at_cl 5 (by repeat constructor) (by rfl) | exact at_cl 6 (by repeat constructor) (by rfl) | exact at_cl 7 (by repeat constructor) (by rfl)) (by rfl)) rfl ?_
        refine go_call (relHas0 q QA qc) rfl rfl (by rfl) rfl (by repeat constructor) (by repeat constructor) (fun h => nomatch h) ?_
        rintro _ _ _ ⟨rfl, rfl, rfl⟩
        refine go_pure0 Tk rfl rfl rfl ?_
        refine go_re 41 (.bool true) (by show some (Value.bool _) = _; first | rfl | simp) ?_
        refine go_pure0 Tk rfl rfl rfl ?_
        refine go_pure0 Tk rfl rfl rfl ?_
        refine go_pure0 Tk rfl rfl rfl ?_
        refine go_call (relLen0) rfl rfl (by rfl) rfl (by repeat constructor) (by repeat constructor) (fun h => nomatch h) ?_
        rintro _ _ _ ⟨rfl, rfl, rfl⟩
        refine go_pure0 Tk rfl rfl rfl ?_
        refine go_re 46 (.bool true) (by show some (Value.bool _) = _; first | rfl | simp) ?_
        refine go_pure0 Tk rfl rfl rfl ?_
        refine go_pure0 Tk rfl rfl rfl ?_
        refine go_pure0 Tk rfl rfl rfl ?_
        refine go_call (relListN none [] (by simp) (by simp)) rfl rfl (by rfl) rfl (by repeat constructor) (by repeat constructor) (fun h => nomatch h) ?_
        rintro _ _ _ ⟨A1, c1, rfl, rfl, rfl⟩
        refine go_pure0 Tk rfl rfl rfl ?_
        refine go_pure0 Tk rfl rfl rfl ?_
        refine go_re 52 (.bool true) (by show some (Value.bool _) = _; first | rfl | simp) ?_
        refine go_pure0 Tk rfl rfl rfl ?_
        refine go_pure0 Tk rfl rfl rfl ?_
        refine go_pure0 Tk rfl rfl rfl ?_
        refine go_val0 rfl (load_val Tk rfl rfl rfl (by first | exact at_pt (by repeat constructor) (by rfl) | exact at_cl 0 (by repeat constructor) (by rfl) | exact at_cl 1 (by repeat constructor) (by rfl) | exact at_cl 2 (by repeat constructor) (by rfl) | exact at_cl 3 (by repeat constructor) (by rfl) | exact at_cl 4 (by repeat constructor) (by rfl) | exact at_cl 5 (by repeat constructor) (by rfl) | exact at_cl 6 (by repeat constructor) (by rfl) | exact at_cl 7 (by repeat constructor) (by rfl)) (by rfl)) rfl ?_
        refine go_call (relFindN none [] a AA ac ha hm (by simp) (by simp)) rfl rfl (by rfl) rfl (by repeat constructor) (by repeat constructor) (fun h => nomatch h) ?_
        rintro _ _ _ ⟨A2, c2, rfl, rfl, rfl⟩
        rw [List.filter_nil]
        refine go_pure0 Tk rfl rfl rfl ?_
        refine go_pure0 Tk rfl rfl rfl ?_
        refine go_re 59 (.bool true) (by show some (Value.bool _) = _; first | rfl | simp) ?_
        refine go_pure0 Tk rfl rfl rfl ?_
        refine go_pure0 Tk rfl rfl rfl ?_
        refine go_pure0 Tk rfl rfl rfl ?_
        refine go_pure0 Tk rfl rfl rfl ?_
        refine go_re 63 (.bool true) (by show some (Value.bool _) = _; first | rfl | simp) ?_
        refine go_pure0 Tk rfl rfl rfl ?_
        refine go_pure0 Tk rfl rfl rfl ?_
        refine go_pure0 Tk rfl rfl rfl ?_
        refine go_call (relLen bx []) rfl rfl (by rfl) rfl (by repeat constructor) (by repeat constructor) (fun h => nomatch h) ?_
        rintro _ _ _ ⟨rfl, rfl, rfl⟩
        refine go_pure0 Tk rfl rfl rfl ?_
        refine go_re 68 (.bool true) (by show some (Value.bool _) = _; first | rfl | simp) ?_
        refine go_pure0 Tk rfl rfl rfl ?_
        refine go_pure0 Tk rfl rfl rfl ?_
        refine go_call (lawWorks10) rfl rfl (by rfl) rfl (by repeat constructor) (by repeat constructor) (fun h => nomatch h) ?_
        rintro _ _ _ ⟨rfl, rfl, rfl⟩
        refine go_pure0 Tk rfl rfl rfl ?_
        refine go_pure0 Tk rfl rfl rfl ?_
        refine go_nil ?_
        refine go_env [(6, _)] ⟨rfl, trivial⟩ ?_
        refine go_ret ⟨rfl, rfl⟩ _ _ (fun a w hp ho hf hs => res1 (by rfl) (.tmp rfl) a w hp ho hf hs) ⟨rfl, rfl, rfl⟩ (by repeat constructor) (by repeat constructor)

set_option maxHeartbeats 2000000 in
set_option maxRecDepth 20000 in
theorem lawRelLess (a : List Fa) (AA : Option Addr) (ac : Nat) (ga : ∀ x ∈ a, x.ok) (b : List Fa) (BA : Option Addr) (bc : Nat) (gb : ∀ x ∈ b, x.ok) :
    Spec Try.prog 10 #[.slice AA a.length ac, .slice BA b.length bc] [sl tFa AA ac a, sl tFa BA bc b] [] (fun v Ps' Os' => v = .bool true ∧ Ps' = [] ∧ Os' = []) := by
  refine spec_of (fn := Try.f10) (args := [.slice AA a.length ac, .slice BA b.length bc]) 76 Try.func10 rfl (by kernel_rfl) Try.ntmps10 (Nat.le_of_ble_eq_true rfl) (fun w0 hp0 hf0 => ?_)
  refine go_seq ?_
  refine go_region rfl ?_
  refine go_pure0 Tk rfl rfl rfl ?_
  refine go_nil ?_
  refine go_env [(0, _), (1, _)] ⟨rfl, rfl, trivial⟩ ?_
  refine go_seq ?_
  refine go_seq ?_
  refine go_region rfl ?_
  refine go_pure0 Tk rfl rfl rfl ?_
  refine go_call (lawFew AA ac a) rfl rfl (by rfl) rfl (by repeat constructor) (by repeat constructor) (fun h => nomatch h) ?_
  rintro _ _ _ ⟨rfl, rfl, rfl⟩
  refine go_pure0 Tk rfl rfl rfl ?_
  refine go_pure0 Tk rfl rfl rfl ?_
  refine go_known 13 rfl ?_ ?_
  · intro f1
    (try simp only [decide_eq_true_eq, decide_eq_false_iff_not, Bool.not_eq_true', Bool.not_eq_false', Bool.not_eq_eq_eq_not, Bool.not_true, Bool.not_false, Int.not_lt, Int.not_le, beq_iff_eq, beq_eq_false_iff_ne, ne_eq] at f1)
    refine go_skip0 rfl rfl ?_
    refine go_skip0 rfl rfl ?_
    refine go_skip0 rfl rfl ?_
    refine go_pure0 Tk rfl rfl rfl ?_
    refine go_nil ?_
    refine go_env [(0, _), (1, _), (17, _)] ⟨rfl, rfl, rfl, trivial⟩ ?_
    refine go_cond_t rfl ?_
    refine go_seq ?_
    refine go_region rfl ?_
    refine go_call (lawWorks10) rfl rfl (by rfl) rfl (by repeat constructor) (by repeat constructor) (fun h => nomatch h) ?_
    rintro _ _ _ ⟨rfl, rfl, rfl⟩
    refine go_pure0 Tk rfl rfl rfl ?_
    refine go_nil ?_
    refine go_env [(4, _)] ⟨rfl, trivial⟩ ?_
    refine go_ret ⟨rfl, rfl⟩ _ _ (fun a w hp ho hf hs => res1 (by rfl) (.tmp rfl) a w hp ho hf hs) ⟨rfl, rfl, rfl⟩ (by repeat constructor) (by repeat constructor)
  · intro f1
    (try simp only [decide_eq_true_eq, decide_eq_false_iff_not, Bool.not_eq_true', Bool.not_eq_false', Bool.not_eq_eq_eq_not, Bool.not_true, Bool.not_false, Int.not_lt, Int.not_le, beq_iff_eq, beq_eq_false_iff_ne, ne_eq] at f1)
    refine go_pure0 Tk rfl rfl rfl ?_
    refine go_call (lawFew BA bc b) rfl rfl (by rfl) rfl (by repeat constructor) (by repeat constructor) (fun h => nomatch h) ?_
    rintro _ _ _ ⟨rfl, rfl, rfl⟩
    refine go_pure0 Tk rfl rfl rfl ?_
    refine go_pure0 Tk rfl rfl rfl ?_
    refine go_nil ?_
    refine go_env [(0, _), (1, _), (17, _)] ⟨rfl, rfl, rfl, trivial⟩ ?_
    refine go_cond rfl ?_ ?_
    · intro f2
      (try simp only [decide_eq_true_eq, decide_eq_false_iff_not, Bool.not_eq_true', Bool.not_eq_false', Bool.not_eq_eq_eq_not, Bool.not_true, Bool.not_false, Int.not_lt, Int.not_le, beq_iff_eq, beq_eq_false_iff_ne, ne_eq] at f2)
      refine go_seq ?_
      refine go_region rfl ?_
      refine go_call (lawWorks10) rfl rfl (by rfl) rfl (by repeat constructor) (by repeat constructor) (fun h => nomatch h) ?_
      rintro _ _ _ ⟨rfl, rfl, rfl⟩
      refine go_pure0 Tk rfl rfl rfl ?_
      refine go_nil ?_
      refine go_env [(4, _)] ⟨rfl, trivial⟩ ?_
      refine go_ret ⟨rfl, rfl⟩ _ _ (fun a w hp ho hf hs => res1 (by rfl) (.tmp rfl) a w hp ho hf hs) ⟨rfl, rfl, rfl⟩ (by repeat constructor) (by repeat constructor)
    · intro f2
      (try simp only [decide_eq_true_eq, decide_eq_false_iff_not, Bool.not_eq_true', Bool.not_eq_false', Bool.not_eq_eq_eq_not, Bool.not_true, Bool.not_false, Int.not_lt, Int.not_le, beq_iff_eq, beq_eq_false_iff_ne, ne_eq] at f2)
      refine go_skip ?_
      refine go_seq ?_
      refine go_len (xs := a) (by repeat constructor) (fun l0 m0 => ?_)
      have fa : fewF a = true := f1
      have fb : fewF b = true := f2
      obtain ⟨hna, hba⟩ := fewF_iff.1 fa
      have hNa : a.length ≤ 1000000 := by omega
      have hBa : ∀ x ∈ a, x.a.length ≤ 100000 := fun x hx => Nat.le_trans (hba x hx) (by omega)
      have hFa : (fof a).length ≤ 1000000 := Nat.le_trans (fof_len a) (by omega)
      have hGa : ∀ x ∈ fof a, x.a.length ≤ 100000 := fun x hx => hBa x (mem_fof.1 hx)
      obtain ⟨hnb, hbb⟩ := fewF_iff.1 fb
      have hNb : b.length ≤ 1000000 := by omega
      have hBb : ∀ x ∈ b, x.a.length ≤ 100000 := fun x hx => Nat.le_trans (hbb x hx) (by omega)
      have hFb : (fof b).length ≤ 1000000 := Nat.le_trans (fof_len b) (by omega)
      have hGb : ∀ x ∈ fof b, x.a.length ≤ 100000 := fun x hx => hBb x (mem_fof.1 hx)
      have hZ : (less (fof a) (fof b)).length ≤ 1000000 := Nat.le_trans (less_len _ _) hFa
      have hZb : ∀ x ∈ less (fof a) (fof b), x.a.length ≤ 100000 := fun x hx => hGa x (mem_less.1 hx).1
      refine go_region rfl ?_
      refine go_pure0 Tk rfl rfl rfl ?_
      refine go_call (relOf AA ac a hNa hBa) rfl rfl (by rfl) rfl (by repeat constructor) (by repeat constructor) (fun h => nomatch h) ?_
      rintro _ _ _ ⟨bx, rfl, rfl, rfl⟩
      refine go_freeze_rel (b := bx) (by repeat constructor) ?_
      refine go_ent (relN (some ⟨bx, 0, none⟩) (fof a)) (fun hh hps => relN_some (hps (relP bx (fof a)) (by repeat constructor))) ?_
      refine go_pure0 Tk rfl rfl rfl ?_
      refine go_nil ?_
      refine go_env [(0, _), (1, _), (5, _)] ⟨rfl, rfl, rfl, trivial⟩ ?_
      refine go_seq ?_
      refine go_region rfl ?_
      refine go_pure0 Tk rfl rfl rfl ?_
      refine go_call (relOf BA bc b hNb hBb) rfl rfl (by rfl) rfl (by repeat constructor) (by repeat constructor) (fun h => nomatch h) ?_
      rintro _ _ _ ⟨by_, rfl, rfl, rfl⟩
      refine go_freeze_rel (b := by_) (by repeat constructor) ?_
      refine go_ent (relN (some ⟨by_, 0, none⟩) (fof b)) (fun hh hps => relN_some (hps (relP by_ (fof b)) (by repeat constructor))) ?_
      refine go_pure0 Tk rfl rfl rfl ?_
      refine go_nil ?_
      refine go_env [(0, _), (1, _), (5, _), (6, _)] ⟨rfl, rfl, rfl, rfl, trivial⟩ ?_
      refine go_seq ?_
      refine go_region rfl ?_
      refine go_pure0 Tk rfl rfl rfl ?_
      refine go_pure0 Tk rfl rfl rfl ?_
      refine go_call (relLessN (some ⟨bx, 0, none⟩) (fof a) (some ⟨by_, 0, none⟩) (fof b) (rises_fof b) hFb hFa hGa) rfl rfl (by rfl) rfl (by repeat constructor) (by repeat constructor) (fun h => nomatch h) ?_
      rintro _ _ _ ⟨bz, rfl, rfl, rfl⟩
      refine go_relD (b := bz) (by repeat constructor) ?_
      refine go_pure0 Tk rfl rfl rfl ?_
      refine go_nil ?_
      refine go_env [(0, _), (1, _), (5, _), (7, _)] ⟨rfl, rfl, rfl, rfl, trivial⟩ ?_
      refine go_seq ?_
      refine go_seq ?_
      refine go_region rfl ?_
      refine go_pure0 Tk rfl rfl rfl ?_
      refine go_call (relListO bz (less (fof a) (fof b)) hZ hZb) rfl rfl (by rfl) rfl (by repeat constructor) (by repeat constructor) (fun h => nomatch h) ?_
      rintro _ _ _ ⟨A1, c1, rfl, rfl, rfl⟩
      refine go_freeze_dl (T := tFa) (A := A1) (by repeat constructor) ?_
      refine go_pure0 Tk rfl rfl rfl ?_
      refine go_call (refOf AA ac a hNa hBa) rfl rfl (by rfl) rfl (by repeat constructor) (by repeat constructor) (fun h => nomatch h) ?_
      rintro _ _ _ ⟨A2, c2, rfl, rfl, rfl⟩
      refine go_pure0 Tk rfl rfl rfl ?_
      refine go_call (refOf BA bc b hNb hBb) rfl rfl (by rfl) rfl (by repeat constructor) (by repeat constructor) (fun h => nomatch h) ?_
      rintro _ _ _ ⟨A3, c3, rfl, rfl, rfl⟩
      refine go_call (refLess A2 c2 (fof a) A3 c3 (fof b) (rises_fof b) hFa) rfl rfl (by rfl) rfl (by repeat constructor) (by repeat constructor) (fun h => nomatch h) ?_
      rintro _ _ _ ⟨A4, c4, rfl, rfl, rfl⟩
      refine go_call (refSame A1 c1 (less (fof a) (fof b)) A4 c4 (less (fof a) (fof b))) rfl rfl (by rfl) rfl (by repeat constructor) (by repeat constructor) (fun h => nomatch h) ?_
      rintro _ _ _ ⟨rfl, rfl, rfl⟩
      refine go_pure0 Tk rfl rfl rfl ?_
      refine go_re 34 (.bool false) (by show some (Value.bool _) = _; first | rfl | simp) ?_
      refine go_nil ?_
      refine go_env [(0, _), (5, _), (7, _), (34, _)] ⟨rfl, rfl, rfl, rfl, trivial⟩ ?_
      refine go_cond_f rfl ?_
      refine go_skip ?_
      refine go_seq ?_
      refine go_region rfl ?_
      refine go_pure0 Tk rfl rfl rfl ?_
      refine go_call (relLenP bx (fof a)) rfl rfl (by rfl) rfl (by repeat constructor) (by repeat constructor) (fun h => nomatch h) ?_
      rintro _ _ _ ⟨rfl, rfl, rfl⟩
      refine go_pure0 Tk rfl rfl rfl ?_
      refine go_nil ?_
      refine go_env [(0, _), (5, _), (7, _), (8, _)] ⟨rfl, rfl, rfl, rfl, trivial⟩ ?_
      refine go_seq ?_
      refine go_seq ?_
      rw [show less (fof a) (fof b) = cuts (less (fof a) (fof b)) (a.take 0) from by simp [cuts]]
      refine go_region rfl ?_
      refine go_pure0 Tk rfl rfl rfl ?_
      refine go_nil ?_
      refine go_env [(0, _), (5, _), (7, _), (8, _), (9, _)] ⟨rfl, rfl, rfl, rfl, rfl, trivial⟩ ?_
      refine go_block ?_
      refine go_loop' (X := Nat) (fun k => [(9, .int .i64 (k : Int))]) [(0, _), (5, _), (7, _), (8, _)] (fun k => [relO bz (cuts (less (fof a) (fof b)) (a.take k))]) (fun k => k ≤ a.length) (fun k => a.length - k) (0) ⟨rfl, rfl, rfl, rfl, rfl, trivial⟩ (by repeat constructor) (by omega) ?_
      intro k hk
      refine go_seq ?_
      refine go_seq ?_
      refine go_region rfl ?_
      refine go_pure0 Tk rfl rfl rfl ?_
      refine go_pure0 Tk rfl rfl rfl ?_
      refine go_pure0 Tk rfl rfl rfl ?_
      refine go_pure0 Tk rfl rfl rfl ?_
      refine go_nil ?_
      refine go_env [(0, _), (5, _), (7, _), (8, _), (9, _), (40, _)] ⟨rfl, rfl, rfl, rfl, rfl, rfl, trivial⟩ ?_
      refine go_condD rfl ?_ ?_
      · intro hq1
        refine go_skip ?_
        refine go_seq ?_
        refine go_block ?_
        refine go_elem_fa (xs := a) (by repeat constructor) (k) (List.getElem?_eq_getElem (by omega)) (fun b0 o0 A0 c0 hA => ?_); cases hA
        have hck := cuts_len (a.take k) (less (fof a) (fof b))
        refine go_region rfl ?_
        refine go_pure0 Tk rfl rfl rfl ?_
        refine go_pure0 Tk rfl rfl rfl ?_
        refine go_pure0 Tk rfl rfl rfl ?_
        refine go_val0 rfl (idx_val Tk rfl rfl rfl rfl rfl (by omega)) rfl ?_
        refine go_val0 rfl (load_val Tk rfl rfl rfl (by first | exact at_pt (by repeat constructor) (by rfl) | exact at_cl 0 (by repeat constructor) (by rfl) | exact at_cl 1 (by repeat constructor) (by rfl) | exact at_cl 2 (by repeat constructor) (by rfl) | exact at_cl 3 (by repeat constructor) (by rfl) | exact at_cl 4 (by repeat constructor) (by rfl) | exact at_cl 5 (by repeat constructor) (by rfl) | exact at_cl 6 (by repeat constructor) (by rfl) | exact at_cl 7 (by repeat constructor) (by rfl)) (by rfl)) rfl ?_
        refine go_call (relCut bz (cuts (less (fof a) (fof b)) (a.take k)) a[k] A0 c0 (cuts_rises _ _ (rises_less (rises_fof a) _)) (by omega)) rfl rfl (by rfl) rfl (by repeat constructor) (by repeat constructor) (fun h => nomatch h) ?_
        rintro _ _ _ ⟨rfl, rfl, rfl⟩
        refine go_nil ?_
        refine go_env [(0, _), (5, _), (7, _), (8, _), (9, _)] ⟨rfl, rfl, rfl, rfl, rfl, trivial⟩ ?_
        refine go_blk ?_
        refine go_region rfl ?_
        refine go_pure0 Tk rfl rfl rfl ?_
        refine go_pure0 Tk rfl rfl rfl ?_
        refine go_pure0 Tk rfl rfl rfl ?_
        refine go_nil ?_
        rw [← cuts_next (by omega)]
        refine go_i64 9 rfl (by omega) (by omega) ?_
        refine go_back (k + 1) ⟨rfl, rfl, rfl, rfl, rfl, trivial⟩ (by repeat constructor) (by repeat constructor) (by omega) (by omega)
      · intro hq1
        refine go_exit rfl ?_
        refine go_seq ?_
        rw [List.take_of_length_le (show a.length ≤ k by omega), cuts_none]
        refine go_region rfl ?_
        refine go_pure0 Tk rfl rfl rfl ?_
        refine go_call (relLen bz []) rfl rfl (by rfl) rfl (by repeat constructor) (by repeat constructor) (fun h => nomatch h) ?_
        rintro _ _ _ ⟨rfl, rfl, rfl⟩
        refine go_pure0 Tk rfl rfl rfl ?_
        refine go_re 51 (.bool true) (by show some (Value.bool _) = _; first | rfl | simp) ?_
        refine go_pure0 Tk rfl rfl rfl ?_
        refine go_pure0 Tk rfl rfl rfl ?_
        refine go_call (relLenP bx (fof a)) rfl rfl (by rfl) rfl (by repeat constructor) (by repeat constructor) (fun h => nomatch h) ?_
        rintro _ _ _ ⟨rfl, rfl, rfl⟩
        refine go_pure0 Tk rfl rfl rfl ?_
        refine go_pure0 Tk rfl rfl rfl ?_
        refine go_re 56 (.bool true) (by show some (Value.bool _) = _; first | rfl | simp) ?_
        refine go_pure0 Tk rfl rfl rfl ?_
        refine go_pure0 Tk rfl rfl rfl ?_
        refine go_pure0 Tk rfl rfl rfl ?_
        refine go_ent (relN none []) (fun _ _ => relN_nil) ?_
        refine go_call (relLessN (some ⟨bx, 0, none⟩) (fof a) (none) ([]) rises_nil (by simp) hFa hGa) rfl rfl (by rfl) rfl (by repeat constructor) (by repeat constructor) (fun h => nomatch h) ?_
        rintro _ _ _ ⟨b1, rfl, rfl, rfl⟩
        refine go_relD (b := b1) (by repeat constructor) ?_
        rw [less_nil]
        refine go_call (relListO b1 (fof a) hFa hGa) rfl rfl (by rfl) rfl (by repeat constructor) (by repeat constructor) (fun h => nomatch h) ?_
        rintro _ _ _ ⟨A5, c5, rfl, rfl, rfl⟩
        refine go_freeze_dl (T := tFa) (A := A5) (by repeat constructor) ?_
        refine go_pure0 Tk rfl rfl rfl ?_
        refine go_call (relListN (some ⟨bx, 0, none⟩) (fof a) hFa hGa) rfl rfl (by rfl) rfl (by repeat constructor) (by repeat constructor) (fun h => nomatch h) ?_
        rintro _ _ _ ⟨A6, c6, rfl, rfl, rfl⟩
        refine go_freeze_dl (T := tFa) (A := A6) (by repeat constructor) ?_
        refine go_call (refSame A5 c5 (fof a) A6 c6 (fof a)) rfl rfl (by rfl) rfl (by repeat constructor) (by repeat constructor) (fun h => nomatch h) ?_
        rintro _ _ _ ⟨rfl, rfl, rfl⟩
        refine go_re 64 (.bool true) (by show some (Value.bool _) = _; first | rfl | simp) ?_
        refine go_pure0 Tk rfl rfl rfl ?_
        refine go_pure0 Tk rfl rfl rfl ?_
        refine go_pure0 Tk rfl rfl rfl ?_
        refine go_pure0 Tk rfl rfl rfl ?_
        refine go_call (relLessN (some ⟨bx, 0, none⟩) (fof a) (some ⟨bx, 0, none⟩) (fof a) (rises_fof a) hFa hFa hGa) rfl rfl (by rfl) rfl (by repeat constructor) (by repeat constructor) (fun h => nomatch h) ?_
        rintro _ _ _ ⟨b2, rfl, rfl, rfl⟩
        refine go_relD (b := b2) (by repeat constructor) ?_
        rw [less_self]
        refine go_call (relLen b2 []) rfl rfl (by rfl) rfl (by repeat constructor) (by repeat constructor) (fun h => nomatch h) ?_
        rintro _ _ _ ⟨rfl, rfl, rfl⟩
        refine go_pure0 Tk rfl rfl rfl ?_
        refine go_re 71 (.bool true) (by show some (Value.bool _) = _; first | rfl | simp) ?_
        refine go_pure0 Tk rfl rfl rfl ?_
        refine go_pure0 Tk rfl rfl rfl ?_
        refine go_call (lawWorks10) rfl rfl (by rfl) rfl (by repeat constructor) (by repeat constructor) (fun h => nomatch h) ?_
        rintro _ _ _ ⟨rfl, rfl, rfl⟩
        refine go_pure0 Tk rfl rfl rfl ?_
        refine go_pure0 Tk rfl rfl rfl ?_
        refine go_nil ?_
        refine go_env [(4, _)] ⟨rfl, trivial⟩ ?_
        refine go_ret ⟨rfl, rfl⟩ _ _ (fun a w hp ho hf hs => res1 (by rfl) (.tmp rfl) a w hp ho hf hs) ⟨rfl, rfl, rfl⟩ (by repeat constructor) (by repeat constructor)

end Go.Proofs.Ytdkfpgdfjnaciaa.SL
