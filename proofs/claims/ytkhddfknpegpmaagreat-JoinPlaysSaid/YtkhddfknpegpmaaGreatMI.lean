/- Engine, data and contracts: parts of the proof, put together (Refcl Reffa). -/
import Derived.Test.YtkhddfknpegpmaaGreatMG
import Derived.Test.YtkhddfknpegpmaaGreatMC
/- Contracts of functions of the program (Refcl): what each call comes to, for the laws' proofs. -/
set_option linter.unusedVariables false
set_option linter.unusedSimpArgs false
namespace Go.Proofs.YtkhddfknpegpmaaGreat.SL
open Go 

set_option maxHeartbeats 2000000 in
set_option maxRecDepth 20000 in
theorem ref05MayAtom (a : Am) (AA : Option Addr) (ac : Nat) :
    Spec Tryz.prog 91 #[.agg #[.int .u32 a.p, .slice AA a.a.length ac]] [sl tTm AA ac a.a] [] (fun v Ps' Os' => v = .bool (mayA a) ∧ Ps' = [] ∧ Os' = []) := by
 refine spec_of (fn := Tryz.f91) (args := [.agg #[.int .u32 a.p, .slice AA a.a.length ac]]) 30 Tryz.func91 rfl (by kernel_rfl) Tryz.ntmps91 (Nat.le_of_ble_eq_true rfl) (fun w0 hp0 hf0 => ?_)
 refine go_seq ?_
 refine go_region rfl ?_
 refine go_box Tk rfl rfl rfl rfl (by rfl) rfl rfl (fun h => nomatch h) ?_
 intro b0
 refine go_pure0 Tk rfl rfl rfl ?_
 refine go_nil ?_
 refine go_freeze_pt (b := b0) (by repeat constructor) ?_
 refine go_env [(1, _)] ⟨rfl, trivial⟩ ?_
 refine go_seq ?_
 refine go_seq ?_
 refine go_len (xs := a.a) (by repeat constructor) (fun l0 m0 => ?_)
 refine go_region rfl ?_
 refine go_pure0 Tk rfl rfl rfl ?_
 refine go_nil ?_
 refine go_env [(1, _), (3, _)] ⟨rfl, rfl, trivial⟩ ?_
 refine go_block ?_
 refine go_loop' (X := Nat) (fun k => [(3, .int .i64 (k : Int))]) [(1, _)] (fun _ => []) (fun k => k ≤ a.a.length ∧ ∀ t ∈ a.a.take k, t.v = true → t.n < 16) (fun k => a.a.length - k) (0) ⟨rfl, rfl, trivial⟩ (by repeat constructor) ⟨by omega, by simp⟩ ?_
 intro k ⟨hk, hz⟩
 refine go_seq ?_
 refine go_seq ?_
 refine go_region rfl ?_
 refine go_pure0 Tk rfl rfl rfl ?_
 refine go_pure0 Tk rfl rfl rfl ?_
 refine go_val0 rfl (ldv Tk rfl rfl rfl) rfl ?_
 refine go_pure0 Tk rfl rfl rfl ?_
 refine go_pure0 Tk rfl rfl rfl ?_
 refine go_nil ?_
 refine go_env [(1, _), (3, _), (8, _)] ⟨rfl, rfl, rfl, trivial⟩ ?_
 refine go_condD rfl ?_ ?_
 ·intro hq1
  refine go_skip ?_
  refine go_seq ?_
  refine go_block ?_
  refine go_seq ?_
  refine go_elem_tm (xs := a.a) (by repeat constructor) (k) (List.getElem?_eq_getElem (by omega)) (fun b1 o1 hA => ?_); cases hA
  refine go_region rfl ?_
  refine go_pure0 Tk rfl rfl rfl ?_
  refine go_val0 rfl (ldv Tk rfl rfl rfl) rfl ?_
  refine go_pure0 Tk rfl rfl rfl ?_
  refine go_val0 rfl (idx_val Tk rfl rfl rfl rfl rfl (by omega)) rfl ?_
  refine go_pure0 Tk rfl rfl rfl ?_
  refine go_val0 rfl (ldv Tk rfl rfl rfl) rfl ?_
  refine go_pure0 Tk rfl rfl rfl ?_
  refine go_known 17 rfl ?_ ?_
  ·intro g1
   (try simp only [decide_eq_true_eq, decide_eq_false_iff_not, Bool.not_eq_true', Bool.not_eq_false', Bool.not_eq_eq_eq_not, Bool.not_true, Bool.not_false, Int.not_lt, Int.not_le, beq_iff_eq, beq_eq_false_iff_ne, ne_eq] at g1)
   refine go_pure0 Tk rfl rfl rfl ?_
   refine go_val0 rfl (ldv Tk rfl rfl rfl) rfl ?_
   refine go_pure0 Tk rfl rfl rfl ?_
   refine go_val0 rfl (idx_val Tk rfl rfl rfl rfl rfl (by omega)) rfl ?_
   refine go_pure0 Tk rfl rfl rfl ?_
   refine go_val0 rfl (ldv Tk rfl rfl rfl) rfl ?_
   refine go_pure0 Tk rfl rfl rfl ?_
   refine go_pure0 Tk rfl rfl rfl ?_
   refine go_nil ?_
   refine go_env [(1, _), (3, _), (18, _), (19, _), (20, _), (21, _), (22, _), (23, _), (24, _), (25, _)] ⟨rfl, rfl, rfl, rfl, rfl, rfl, rfl, rfl, rfl, rfl, trivial⟩ ?_
   refine go_cond rfl ?_ ?_
   ·intro g2
    (try simp only [decide_eq_true_eq, decide_eq_false_iff_not, Bool.not_eq_true', Bool.not_eq_false', Bool.not_eq_eq_eq_not, Bool.not_true, Bool.not_false, Int.not_lt, Int.not_le, beq_iff_eq, beq_eq_false_iff_ne, ne_eq] at g2)
    refine go_seq ?_
    refine go_region rfl ?_
    refine go_pure0 Tk rfl rfl rfl ?_
    refine go_nil ?_
    refine go_env [(2, _)] ⟨rfl, trivial⟩ ?_
    refine go_ret ⟨rfl, rfl⟩ _ _ (res1 (by rfl) (.tmp rfl)) ⟨by rw [show mayA a = false from Bool.eq_false_iff.2 (fun e => by have := (mayA_iff.1 e).2 a.a[k] (List.getElem_mem _) g1; omega)], rfl, rfl⟩ (by repeat constructor) (by repeat constructor)
   ·intro g2
    (try simp only [decide_eq_true_eq, decide_eq_false_iff_not, Bool.not_eq_true', Bool.not_eq_false', Bool.not_eq_eq_eq_not, Bool.not_true, Bool.not_false, Int.not_lt, Int.not_le, beq_iff_eq, beq_eq_false_iff_ne, ne_eq] at g2)
    refine go_skip ?_
    refine go_blk ?_
    refine go_region rfl ?_
    refine go_pure0 Tk rfl rfl rfl ?_
    refine go_pure0 Tk rfl rfl rfl ?_
    refine go_pure0 Tk rfl rfl rfl ?_
    refine go_nil ?_
    refine go_i64 3 rfl (by omega) (by omega) ?_
    refine go_back (k + 1) ⟨rfl, rfl, trivial⟩ (by repeat constructor) (by repeat constructor) (⟨by omega, mem_take_next (by omega) hz (fun q => by first | exact absurd (g1.symm.trans q) (by decide) | omega)⟩) (by omega)
  ·intro g1
   (try simp only [decide_eq_true_eq, decide_eq_false_iff_not, Bool.not_eq_true', Bool.not_eq_false', Bool.not_eq_eq_eq_not, Bool.not_true, Bool.not_false, Int.not_lt, Int.not_le, beq_iff_eq, beq_eq_false_iff_ne, ne_eq] at g1)
   refine go_skip0 rfl rfl ?_
   refine go_skip0 rfl rfl ?_
   refine go_skip0 rfl rfl ?_
   refine go_skip0 rfl rfl ?_
   refine go_skip0 rfl rfl ?_
   refine go_skip0 rfl rfl ?_
   refine go_skip0 rfl rfl ?_
   refine go_pure0 Tk rfl rfl rfl ?_
   refine go_nil ?_
   refine go_env [(1, _), (3, _), (18, _), (19, _), (20, _), (21, _), (22, _), (23, _), (24, _), (25, _)] ⟨rfl, rfl, rfl, rfl, rfl, rfl, rfl, rfl, rfl, rfl, trivial⟩ ?_
   refine go_cond_f rfl ?_
   refine go_skip ?_
   refine go_blk ?_
   refine go_region rfl ?_
   refine go_pure0 Tk rfl rfl rfl ?_
   refine go_pure0 Tk rfl rfl rfl ?_
   refine go_pure0 Tk rfl rfl rfl ?_
   refine go_nil ?_
   refine go_i64 3 rfl (by omega) (by omega) ?_
   refine go_back (k + 1) ⟨rfl, rfl, trivial⟩ (by repeat constructor) (by repeat constructor) (⟨by omega, mem_take_next (by omega) hz (fun q => by first | exact absurd (g1.symm.trans q) (by decide) | omega)⟩) (by omega)
 ·intro hq1
  refine go_exit rfl ?_
  refine go_seq ?_
  refine go_region rfl ?_
  refine go_pure0 Tk rfl rfl rfl ?_
  refine go_val0 rfl (ldv Tk rfl rfl rfl) rfl ?_
  refine go_pure0 Tk rfl rfl rfl ?_
  refine go_pure0 Tk rfl rfl rfl ?_
  refine go_pure0 Tk rfl rfl rfl ?_
  refine go_nil ?_
  refine go_env [(2, _)] ⟨rfl, trivial⟩ ?_
  refine go_ret ⟨rfl, rfl⟩ _ _ (res1 (by rfl) (.tmp rfl)) ⟨congrArg Value.bool (Bool.eq_iff_iff.2 (by rw [decide_eq_true_eq, mayA_iff]; rw [List.take_of_length_le (by omega)] at hz; exact ⟨fun h => ⟨by omega, hz⟩, fun h => by omega⟩)), rfl, rfl⟩ (by repeat constructor) (by repeat constructor)

set_option maxHeartbeats 2000000 in
set_option maxRecDepth 20000 in
theorem ref05May (c : Cl) (CA : Option Addr) (cc : Nat) (CB : Option Addr) (cd : Nat) :
    Spec Tryz.prog 72 #[.agg #[.int .u32 c.h.p, .slice CA c.h.a.length cc, .slice CB c.b.length cd]] [sl tTm CA cc c.h.a, sl tLi CB cd c.b] [] (fun v Ps' Os' => v = .bool (mayC c) ∧ Ps' = [] ∧ Os' = []) := by
 refine spec_of (fn := Tryz.f72) (args := [.agg #[.int .u32 c.h.p, .slice CA c.h.a.length cc, .slice CB c.b.length cd]]) 28 Tryz.func72 rfl (by kernel_rfl) Tryz.ntmps72 (Nat.le_of_ble_eq_true rfl) (fun w0 hp0 hf0 => ?_)
 refine go_seq ?_
 refine go_region rfl ?_
 refine go_box Tk rfl rfl rfl rfl (by rfl) rfl rfl (fun h => nomatch h) ?_
 intro bC
 refine go_pure0 Tk rfl rfl rfl ?_
 refine go_nil ?_
 refine go_freeze_pt (b := bC) (by repeat constructor) ?_
 refine go_env [(1, _)] ⟨rfl, trivial⟩ ?_
 refine go_seq ?_
 refine go_seq ?_
 refine go_len (xs := c.b) (by repeat constructor) (fun l0 m0 => ?_)
 refine go_region rfl ?_
 refine go_pure0 Tk rfl rfl rfl ?_
 refine go_nil ?_
 refine go_env [(1, _), (3, _)] ⟨rfl, rfl, trivial⟩ ?_
 refine go_block ?_
 refine go_loop' (X := Nat) (fun k => [(3, .int .i64 (k : Int))]) [(1, _)] (fun _ => []) (fun k => k ≤ c.b.length ∧ ∀ l ∈ c.b.take k, mayA l.a = true) (fun k => c.b.length - k) (0) ⟨rfl, rfl, trivial⟩ (by repeat constructor) ⟨by omega, by simp⟩ ?_
 intro k ⟨hk, hz⟩
 refine go_seq ?_
 refine go_seq ?_
 refine go_region rfl ?_
 refine go_pure0 Tk rfl rfl rfl ?_
 refine go_pure0 Tk rfl rfl rfl ?_
 refine go_val0 rfl (ldv Tk rfl rfl rfl) rfl ?_
 refine go_pure0 Tk rfl rfl rfl ?_
 refine go_pure0 Tk rfl rfl rfl ?_
 refine go_nil ?_
 refine go_env [(1, _), (3, _), (8, _)] ⟨rfl, rfl, rfl, trivial⟩ ?_
 refine go_condD rfl ?_ ?_
 ·intro hq1
  refine go_skip ?_
  refine go_seq ?_
  refine go_block ?_
  refine go_seq ?_
  refine go_elem_li (xs := c.b) (by repeat constructor) (k) (List.getElem?_eq_getElem (by omega)) (fun b1 o1 A1 c1 hA => ?_); cases hA
  refine go_region rfl ?_
  refine go_pure0 Tk rfl rfl rfl ?_
  refine go_val0 rfl (ldv Tk rfl rfl rfl) rfl ?_
  refine go_pure0 Tk rfl rfl rfl ?_
  refine go_val0 rfl (idx_val Tk rfl rfl rfl rfl rfl (by omega)) rfl ?_
  refine go_pure0 Tk rfl rfl rfl ?_
  refine go_val0 rfl (ldv Tk rfl rfl rfl) rfl ?_
  refine go_call (ref05MayAtom c.b[k].a A1 c1) rfl rfl (by rfl) rfl (by repeat constructor) (by repeat constructor) (fun h => nomatch h) ?_
  rintro _ _ _ ⟨rfl, rfl, rfl⟩
  refine go_pure0 Tk rfl rfl rfl ?_
  refine go_nil ?_
  refine go_env [(1, _), (3, _), (18, _)] ⟨rfl, rfl, rfl, trivial⟩ ?_
  refine go_cond rfl ?_ ?_
  ·intro g1
   (try simp only [decide_eq_true_eq, decide_eq_false_iff_not, Bool.not_eq_true', Bool.not_eq_false', Bool.not_eq_eq_eq_not, Bool.not_true, Bool.not_false, Int.not_lt, Int.not_le, beq_iff_eq, beq_eq_false_iff_ne, ne_eq] at g1)
   refine go_seq ?_
   refine go_region rfl ?_
   refine go_pure0 Tk rfl rfl rfl ?_
   refine go_nil ?_
   refine go_env [(2, _)] ⟨rfl, trivial⟩ ?_
   refine go_ret ⟨rfl, rfl⟩ _ _ (res1 (by rfl) (.tmp rfl)) ⟨by rw [show mayC c = false from Bool.eq_false_iff.2 (fun e => by have := (mayC_iff.1 e).2.2 c.b[k] (List.getElem_mem _); exact absurd (g1.symm.trans this) (by decide))], rfl, rfl⟩ (by repeat constructor) (by repeat constructor)
  ·intro g1
   (try simp only [decide_eq_true_eq, decide_eq_false_iff_not, Bool.not_eq_true', Bool.not_eq_false', Bool.not_eq_eq_eq_not, Bool.not_true, Bool.not_false, Int.not_lt, Int.not_le, beq_iff_eq, beq_eq_false_iff_ne, ne_eq] at g1)
   refine go_skip ?_
   refine go_blk ?_
   refine go_region rfl ?_
   refine go_pure0 Tk rfl rfl rfl ?_
   refine go_pure0 Tk rfl rfl rfl ?_
   refine go_pure0 Tk rfl rfl rfl ?_
   refine go_nil ?_
   refine go_i64 3 rfl (by omega) (by omega) ?_
   refine go_back (k + 1) ⟨rfl, rfl, trivial⟩ (by repeat constructor) (by repeat constructor) (⟨by omega, mem_take_next (by omega) hz g1⟩) (by omega)
 ·intro hq1
  refine go_exit rfl ?_
  refine go_seq ?_
  refine go_region rfl ?_
  refine go_pure0 Tk rfl rfl rfl ?_
  refine go_val0 rfl (ldv Tk rfl rfl rfl) rfl ?_
  refine go_call (ref05MayAtom c.h CA cc) rfl rfl (by rfl) rfl (by repeat constructor) (by repeat constructor) (fun h => nomatch h) ?_
  rintro _ _ _ ⟨rfl, rfl, rfl⟩
  refine go_pure0 Tk rfl rfl rfl ?_
  refine go_known 22 rfl ?_ ?_
  ·intro g2
   (try simp only [decide_eq_true_eq, decide_eq_false_iff_not, Bool.not_eq_true', Bool.not_eq_false', Bool.not_eq_eq_eq_not, Bool.not_true, Bool.not_false, Int.not_lt, Int.not_le, beq_iff_eq, beq_eq_false_iff_ne, ne_eq] at g2)
   refine go_pure0 Tk rfl rfl rfl ?_
   refine go_val0 rfl (ldv Tk rfl rfl rfl) rfl ?_
   refine go_pure0 Tk rfl rfl rfl ?_
   refine go_pure0 Tk rfl rfl rfl ?_
   refine go_pure0 Tk rfl rfl rfl ?_
   refine go_pure0 Tk rfl rfl rfl ?_
   refine go_nil ?_
   refine go_env [(2, _)] ⟨rfl, trivial⟩ ?_
   refine go_ret ⟨rfl, rfl⟩ _ _ (res1 (by rfl) (.tmp rfl)) ⟨by first | exact congrArg Value.bool (Bool.eq_iff_iff.2 (by rw [decide_eq_true_eq, mayC_iff]; rw [List.take_of_length_le (by omega)] at hz; exact ⟨fun h => ⟨by omega, g2, hz⟩, fun h => by omega⟩)) | rw [show mayC c = false from Bool.eq_false_iff.2 (fun e => absurd (g2.symm.trans (mayC_iff.1 e).2.1) (by decide))], rfl, rfl⟩ (by repeat constructor) (by repeat constructor)
  ·intro g2
   (try simp only [decide_eq_true_eq, decide_eq_false_iff_not, Bool.not_eq_true', Bool.not_eq_false', Bool.not_eq_eq_eq_not, Bool.not_true, Bool.not_false, Int.not_lt, Int.not_le, beq_iff_eq, beq_eq_false_iff_ne, ne_eq] at g2)
   refine go_skip0 rfl rfl ?_
   refine go_skip0 rfl rfl ?_
   refine go_skip0 rfl rfl ?_
   refine go_skip0 rfl rfl ?_
   refine go_pure0 Tk rfl rfl rfl ?_
   refine go_pure0 Tk rfl rfl rfl ?_
   refine go_nil ?_
   refine go_env [(2, _)] ⟨rfl, trivial⟩ ?_
   refine go_ret ⟨rfl, rfl⟩ _ _ (res1 (by rfl) (.tmp rfl)) ⟨by first | exact congrArg Value.bool (Bool.eq_iff_iff.2 (by rw [decide_eq_true_eq, mayC_iff]; rw [List.take_of_length_le (by omega)] at hz; exact ⟨fun h => ⟨by omega, g2, hz⟩, fun h => by omega⟩)) | rw [show mayC c = false from Bool.eq_false_iff.2 (fun e => absurd (g2.symm.trans (mayC_iff.1 e).2.1) (by decide))], rfl, rfl⟩ (by repeat constructor) (by repeat constructor)

set_option maxHeartbeats 2000000 in
set_option maxRecDepth 20000 in
theorem ref11in (a : Am) (AA : Option Addr) (ac : Nat) (n : Int) :
    Spec Tryz.prog 105 #[.agg #[.int .u32 a.p, .slice AA a.a.length ac], .int .u32 n] [sl tTm AA ac a.a] [] (fun v Ps' Os' => v = .bool (decide (n ∈ vars a)) ∧ Ps' = [] ∧ Os' = []) := by
 refine spec_of (fn := Tryz.f105) (args := [.agg #[.int .u32 a.p, .slice AA a.a.length ac], .int .u32 n]) 29 Tryz.func105 rfl (by kernel_rfl) Tryz.ntmps105 (Nat.le_of_ble_eq_true rfl) (fun w0 hp0 hf0 => ?_)
 refine go_seq ?_
 refine go_region rfl ?_
 refine go_box Tk rfl rfl rfl rfl (by rfl) rfl rfl (fun h => nomatch h) ?_
 intro b0
 refine go_pure0 Tk rfl rfl rfl ?_
 refine go_nil ?_
 refine go_freeze_pt (b := b0) (by repeat constructor) ?_
 refine go_env [(1, _), (2, _)] ⟨rfl, rfl, trivial⟩ ?_
 refine go_seq ?_
 refine go_seq ?_
 refine go_len (xs := a.a) (by repeat constructor) (fun l0 m0 => ?_)
 refine go_region rfl ?_
 refine go_pure0 Tk rfl rfl rfl ?_
 refine go_nil ?_
 refine go_env [(1, _), (2, _), (5, _)] ⟨rfl, rfl, rfl, trivial⟩ ?_
 refine go_block ?_
 refine go_loop' (X := Nat) (fun k => [(5, .int .i64 (k : Int))]) [(1, _), (2, _)] (fun _ => []) (fun k => k ≤ a.a.length ∧ ∀ t ∈ a.a.take k, ¬ (t.v = true ∧ t.n = n)) (fun k => a.a.length - k) (0) ⟨rfl, rfl, rfl, trivial⟩ (by repeat constructor) ⟨by omega, by simp⟩ ?_
 intro k ⟨hk, hz⟩
 refine go_seq ?_
 refine go_seq ?_
 refine go_region rfl ?_
 refine go_pure0 Tk rfl rfl rfl ?_
 refine go_pure0 Tk rfl rfl rfl ?_
 refine go_val0 rfl (ldv Tk rfl rfl rfl) rfl ?_
 refine go_pure0 Tk rfl rfl rfl ?_
 refine go_pure0 Tk rfl rfl rfl ?_
 refine go_nil ?_
 refine go_env [(1, _), (2, _), (5, _), (10, _)] ⟨rfl, rfl, rfl, rfl, trivial⟩ ?_
 refine go_condD rfl ?_ ?_
 ·intro hq1
  refine go_skip ?_
  refine go_seq ?_
  refine go_block ?_
  refine go_seq ?_
  refine go_elem_tm (xs := a.a) (by repeat constructor) (k) (List.getElem?_eq_getElem (by omega)) (fun b1 o1 hA => ?_); cases hA
  refine go_region rfl ?_
  refine go_pure0 Tk rfl rfl rfl ?_
  refine go_val0 rfl (ldv Tk rfl rfl rfl) rfl ?_
  refine go_pure0 Tk rfl rfl rfl ?_
  refine go_val0 rfl (idx_val Tk rfl rfl rfl rfl rfl (by omega)) rfl ?_
  refine go_pure0 Tk rfl rfl rfl ?_
  refine go_val0 rfl (ldv Tk rfl rfl rfl) rfl ?_
  refine go_pure0 Tk rfl rfl rfl ?_
  refine go_known 19 rfl ?_ ?_
  ·intro g1
   (try simp only [decide_eq_true_eq, decide_eq_false_iff_not, Bool.not_eq_true', Bool.not_eq_false', Bool.not_eq_eq_eq_not, Bool.not_true, Bool.not_false, Int.not_lt, Int.not_le, beq_iff_eq, beq_eq_false_iff_ne, ne_eq] at g1)
   refine go_pure0 Tk rfl rfl rfl ?_
   refine go_val0 rfl (ldv Tk rfl rfl rfl) rfl ?_
   refine go_pure0 Tk rfl rfl rfl ?_
   refine go_val0 rfl (idx_val Tk rfl rfl rfl rfl rfl (by omega)) rfl ?_
   refine go_pure0 Tk rfl rfl rfl ?_
   refine go_val0 rfl (ldv Tk rfl rfl rfl) rfl ?_
   refine go_pure0 Tk rfl rfl rfl ?_
   refine go_pure0 Tk rfl rfl rfl ?_
   refine go_pure0 Tk rfl rfl rfl ?_
   refine go_nil ?_
   refine go_env [(1, _), (2, _), (5, _), (20, _), (21, _), (22, _), (23, _), (24, _), (25, _), (26, _), (27, _), (28, _)] ⟨rfl, rfl, rfl, rfl, rfl, rfl, rfl, rfl, rfl, rfl, rfl, rfl, trivial⟩ ?_
   refine go_cond rfl ?_ ?_
   ·intro g2
    (try simp only [decide_eq_true_eq, decide_eq_false_iff_not, Bool.not_eq_true', Bool.not_eq_false', Bool.not_eq_eq_eq_not, Bool.not_true, Bool.not_false, Int.not_lt, Int.not_le, beq_iff_eq, beq_eq_false_iff_ne, ne_eq] at g2)
    refine go_seq ?_
    refine go_region rfl ?_
    refine go_pure0 Tk rfl rfl rfl ?_
    refine go_nil ?_
    refine go_env [(4, _)] ⟨rfl, trivial⟩ ?_
    refine go_ret ⟨rfl, rfl⟩ _ _ (res1 (by rfl) (.tmp rfl)) ⟨by first | rw [decide_eq_true (mem_vars.2 ⟨a.a[k], List.getElem_mem _, g1, g2⟩)] | (rw [decide_eq_false]; intro q; obtain ⟨t, ht, q1, q2⟩ := mem_vars.1 q; rw [List.take_of_length_le (by omega)] at hz; exact hz t ht ⟨q1, q2⟩), rfl, rfl⟩ (by repeat constructor) (by repeat constructor)
   ·intro g2
    (try simp only [decide_eq_true_eq, decide_eq_false_iff_not, Bool.not_eq_true', Bool.not_eq_false', Bool.not_eq_eq_eq_not, Bool.not_true, Bool.not_false, Int.not_lt, Int.not_le, beq_iff_eq, beq_eq_false_iff_ne, ne_eq] at g2)
    refine go_skip ?_
    refine go_blk ?_
    refine go_region rfl ?_
    refine go_pure0 Tk rfl rfl rfl ?_
    refine go_pure0 Tk rfl rfl rfl ?_
    refine go_pure0 Tk rfl rfl rfl ?_
    refine go_nil ?_
    refine go_i64 5 rfl (by omega) (by omega) ?_
    refine go_back (k + 1) ⟨rfl, rfl, rfl, trivial⟩ (by repeat constructor) (by repeat constructor) (⟨by omega, mem_take_next (by omega) hz (fun q => by first | exact absurd (g1.symm.trans q.1) (by decide) | exact g2 q.2)⟩) (by omega)
  ·intro g1
   (try simp only [decide_eq_true_eq, decide_eq_false_iff_not, Bool.not_eq_true', Bool.not_eq_false', Bool.not_eq_eq_eq_not, Bool.not_true, Bool.not_false, Int.not_lt, Int.not_le, beq_iff_eq, beq_eq_false_iff_ne, ne_eq] at g1)
   refine go_skip0 rfl rfl ?_
   refine go_skip0 rfl rfl ?_
   refine go_skip0 rfl rfl ?_
   refine go_skip0 rfl rfl ?_
   refine go_skip0 rfl rfl ?_
   refine go_skip0 rfl rfl ?_
   refine go_skip0 rfl rfl ?_
   refine go_skip0 rfl rfl ?_
   refine go_pure0 Tk rfl rfl rfl ?_
   refine go_nil ?_
   refine go_env [(1, _), (2, _), (5, _), (20, _), (21, _), (22, _), (23, _), (24, _), (25, _), (26, _), (27, _), (28, _)] ⟨rfl, rfl, rfl, rfl, rfl, rfl, rfl, rfl, rfl, rfl, rfl, rfl, trivial⟩ ?_
   refine go_cond_f rfl ?_
   refine go_skip ?_
   refine go_blk ?_
   refine go_region rfl ?_
   refine go_pure0 Tk rfl rfl rfl ?_
   refine go_pure0 Tk rfl rfl rfl ?_
   refine go_pure0 Tk rfl rfl rfl ?_
   refine go_nil ?_
   refine go_i64 5 rfl (by omega) (by omega) ?_
   refine go_back (k + 1) ⟨rfl, rfl, rfl, trivial⟩ (by repeat constructor) (by repeat constructor) (⟨by omega, mem_take_next (by omega) hz (fun q => by first | exact absurd (g1.symm.trans q.1) (by decide) | exact g2 q.2)⟩) (by omega)
 ·intro hq1
  refine go_exit rfl ?_
  refine go_seq ?_
  refine go_region rfl ?_
  refine go_pure0 Tk rfl rfl rfl ?_
  refine go_nil ?_
  refine go_env [(4, _)] ⟨rfl, trivial⟩ ?_
  refine go_ret ⟨rfl, rfl⟩ _ _ (res1 (by rfl) (.tmp rfl)) ⟨by first | rw [decide_eq_true (mem_vars.2 ⟨a.a[k], List.getElem_mem _, g1, g2⟩)] | (rw [decide_eq_false]; intro q; obtain ⟨t, ht, q1, q2⟩ := mem_vars.1 q; rw [List.take_of_length_le (by omega)] at hz; exact hz t ht ⟨q1, q2⟩), rfl, rfl⟩ (by repeat constructor) (by repeat constructor)

set_option maxHeartbeats 2000000 in
set_option maxRecDepth 20000 in
theorem ref11held (c : Cl) (CA : Option Addr) (cc : Nat) (CB : Option Addr) (cd : Nat) (a : Am) (AA : Option Addr) (ac : Nat) :
    Spec Tryz.prog 92 #[.agg #[.int .u32 c.h.p, .slice CA c.h.a.length cc, .slice CB c.b.length cd], .agg #[.int .u32 a.p, .slice AA a.a.length ac]] [sl tTm CA cc c.h.a, sl tLi CB cd c.b, sl tTm AA ac a.a] [] (fun v Ps' Os' => v = .bool (heldIn c a) ∧ Ps' = [] ∧ Os' = []) := by
 refine spec_of (fn := Tryz.f92) (args := [.agg #[.int .u32 c.h.p, .slice CA c.h.a.length cc, .slice CB c.b.length cd], .agg #[.int .u32 a.p, .slice AA a.a.length ac]]) 56 Tryz.func92 rfl (by kernel_rfl) Tryz.ntmps92 (Nat.le_of_ble_eq_true rfl) (fun w0 hp0 hf0 => ?_)
 refine go_seq ?_
 refine go_region rfl ?_
 refine go_box Tk rfl rfl rfl rfl (by rfl) rfl rfl (fun h => nomatch h) ?_
 intro bC
 refine go_box Tk rfl rfl rfl rfl (by rfl) rfl rfl (fun h => nomatch h) ?_
 intro bA
 refine go_pure0 Tk rfl rfl rfl ?_
 refine go_nil ?_
 refine go_freeze_pt (b := bC) (by repeat constructor) ?_
 refine go_freeze_pt (b := bA) (by repeat constructor) ?_
 refine go_env [(2, _), (3, _)] ⟨rfl, rfl, trivial⟩ ?_
 refine go_seq ?_
 refine go_seq ?_
 refine go_len (xs := a.a) (by repeat constructor) (fun l0 m0 => ?_)
 refine go_len (xs := c.b) (by repeat constructor) (fun l1 m1 => ?_)
 refine go_region rfl ?_
 refine go_pure0 Tk rfl rfl rfl ?_
 refine go_nil ?_
 refine go_env [(2, _), (3, _), (5, _)] ⟨rfl, rfl, rfl, trivial⟩ ?_
 refine go_block ?_
 refine go_loop' (X := Nat) (fun k => [(5, .int .i64 (k : Int))]) [(2, _), (3, _)] (fun _ => []) (fun k => k ≤ a.a.length ∧ ∀ t ∈ a.a.take k, t.v = true → t.n ∈ heldBy c) (fun k => a.a.length - k) (0) ⟨rfl, rfl, rfl, trivial⟩ (by repeat constructor) ⟨by omega, by simp⟩ ?_
 intro k ⟨hk, hz⟩
 refine go_seq ?_
 refine go_seq ?_
 refine go_region rfl ?_
 refine go_pure0 Tk rfl rfl rfl ?_
 refine go_pure0 Tk rfl rfl rfl ?_
 refine go_val0 rfl (ldv Tk rfl rfl rfl) rfl ?_
 refine go_pure0 Tk rfl rfl rfl ?_
 refine go_pure0 Tk rfl rfl rfl ?_
 refine go_nil ?_
 refine go_env [(2, _), (3, _), (5, _), (12, _)] ⟨rfl, rfl, rfl, rfl, trivial⟩ ?_
 refine go_condD rfl ?_ ?_
 ·intro hq1
  refine go_skip ?_
  refine go_seq ?_
  refine go_block ?_
  refine go_seq ?_
  refine go_seq ?_
  refine go_elem_tm (xs := a.a) (by repeat constructor) (k) (List.getElem?_eq_getElem (by omega)) (fun b1 o1 hA => ?_); cases hA
  refine go_region rfl ?_
  refine go_pure0 Tk rfl rfl rfl ?_
  refine go_val0 rfl (ldv Tk rfl rfl rfl) rfl ?_
  refine go_pure0 Tk rfl rfl rfl ?_
  refine go_val0 rfl (idx_val Tk rfl rfl rfl rfl rfl (by omega)) rfl ?_
  refine go_pure0 Tk rfl rfl rfl ?_
  refine go_val0 rfl (ldv Tk rfl rfl rfl) rfl ?_
  refine go_pure0 Tk rfl rfl rfl ?_
  refine go_nil ?_
  refine go_env [(2, _), (3, _), (5, _), (21, _)] ⟨rfl, rfl, rfl, rfl, trivial⟩ ?_
  refine go_cond rfl ?_ ?_
  ·intro g1
   (try simp only [decide_eq_true_eq, decide_eq_false_iff_not, Bool.not_eq_true', Bool.not_eq_false', Bool.not_eq_eq_eq_not, Bool.not_true, Bool.not_false, Int.not_lt, Int.not_le, beq_iff_eq, beq_eq_false_iff_ne, ne_eq] at g1)
   refine go_exit rfl ?_
   refine go_region rfl ?_
   refine go_pure0 Tk rfl rfl rfl ?_
   refine go_pure0 Tk rfl rfl rfl ?_
   refine go_pure0 Tk rfl rfl rfl ?_
   refine go_nil ?_
   refine go_i64 5 rfl (by omega) (by omega) ?_
   refine go_back (k + 1) ⟨rfl, rfl, rfl, trivial⟩ (by repeat constructor) (by repeat constructor) (⟨by omega, mem_take_next (by omega) hz (fun q => by first | exact absurd (g1.symm.trans q) (by decide) | exact held_full (m := m) (by omega) (by first | exact g4 | simpa using g4))⟩) (by omega)
  ·intro g1
   (try simp only [decide_eq_true_eq, decide_eq_false_iff_not, Bool.not_eq_true', Bool.not_eq_false', Bool.not_eq_eq_eq_not, Bool.not_true, Bool.not_false, Int.not_lt, Int.not_le, beq_iff_eq, beq_eq_false_iff_ne, ne_eq] at g1)
   refine go_skip ?_
   refine go_seq ?_
   refine go_region rfl ?_
   refine go_pure0 Tk rfl rfl rfl ?_
   refine go_nil ?_
   refine go_env [(2, _), (3, _), (5, _), (6, _)] ⟨rfl, rfl, rfl, rfl, trivial⟩ ?_
   refine go_seq ?_
   refine go_seq ?_
   refine go_region rfl ?_
   refine go_pure0 Tk rfl rfl rfl ?_
   refine go_nil ?_
   refine go_env [(2, _), (3, _), (5, _), (6, _), (7, _)] ⟨rfl, rfl, rfl, rfl, rfl, trivial⟩ ?_
   refine go_block ?_
   refine go_loop' (X := Nat) (fun m => [(6, .bool (decide (a.a[k].n ∈ heldBy ⟨c.h, c.b.take m⟩))), (7, .int .i64 (m : Int))]) [(2, _), (3, _), (5, _)] (fun _ => []) (fun m => m ≤ c.b.length) (fun m => c.b.length - m) (0) ⟨rfl, rfl, rfl, rfl, rfl, trivial⟩ (by repeat constructor) (by omega) ?_
   intro m hm
   refine go_seq ?_
   refine go_seq ?_
   refine go_region rfl ?_
   refine go_pure0 Tk rfl rfl rfl ?_
   refine go_pure0 Tk rfl rfl rfl ?_
   refine go_val0 rfl (ldv Tk rfl rfl rfl) rfl ?_
   refine go_pure0 Tk rfl rfl rfl ?_
   refine go_pure0 Tk rfl rfl rfl ?_
   refine go_nil ?_
   refine go_env [(2, _), (3, _), (5, _), (6, _), (7, _), (26, _)] ⟨rfl, rfl, rfl, rfl, rfl, rfl, trivial⟩ ?_
   refine go_condD rfl ?_ ?_
   ·intro hq2
    refine go_skip ?_
    refine go_seq ?_
    refine go_block ?_
    refine go_elem_li (xs := c.b) (by repeat constructor) (m) (List.getElem?_eq_getElem (by omega)) (fun b2 o2 A2 c2 hA => ?_); cases hA
    refine go_draw ([cl bC 0 [.int .u32 c.h.p, .slice CA c.h.a.length cc, .slice (some ⟨b2, o2, none⟩) c.b.length cd], cl b2 (o2 + m * 3) [.bool c.b[m].no, .int .u32 c.b[m].a.p, .slice A2 c.b[m].a.a.length c2], cl bA 0 [.int .u32 a.p, .slice (some ⟨b1, o1, none⟩) a.a.length ac], cl b1 (o1 + k * 2) [.bool a.a[k].v, .int .u32 a.a[k].n]]) ([]) [3, 7, 11, 15, 17, 21] (SL.pre [(1, 0), (1, 1), (1, 2), (1, 4), (2, 3), (1, 5), (1, 6), (2, 7), (1, 8), (1, 9), (1, 10), (1, 12), (1, 16), (1, 18), (2, 11), (1, 13), (1, 14), (2, 15), (2, 17), (1, 19), (1, 20), (2, 21), (0, 22), (1, 23), (1, 24), (1, 25)] .nil) mixed rfl (by kernel_rfl) ?_
    refine go_pure1 Tk rfl rfl rfl ?_
    refine go_pure1 Tk rfl rfl rfl ?_
    refine go_known 30 rfl ?_ ?_
    ·intro g2
     (try simp only [decide_eq_true_eq, decide_eq_false_iff_not, Bool.not_eq_true', Bool.not_eq_false', Bool.not_eq_eq_eq_not, Bool.not_true, Bool.not_false, Int.not_lt, Int.not_le, beq_iff_eq, beq_eq_false_iff_ne, ne_eq] at g2)
     refine go_skip1 rfl rfl ?_
     refine go_skip1 rfl rfl ?_
     refine go_skip2 rfl (by repeat constructor) (by repeat constructor) rfl ?_
     refine go_skip1 rfl rfl ?_
     refine go_skip1 rfl rfl ?_
     refine go_skip2 rfl (by repeat constructor) (by repeat constructor) rfl ?_
     refine go_skip1 rfl rfl ?_
     refine go_skip1 rfl rfl ?_
     refine go_skip1 rfl rfl ?_
     refine go_skip1 rfl rfl ?_
     refine go_skip1 rfl rfl ?_
     refine go_skip1 rfl rfl ?_
     refine go_skip2 rfl (by repeat constructor) (by repeat constructor) rfl ?_
     refine go_skip1 rfl rfl ?_
     refine go_skip1 rfl rfl ?_
     refine go_skip2 rfl (by repeat constructor) (by repeat constructor) rfl ?_
     refine go_skip2 rfl (by repeat constructor) (by repeat constructor) rfl ?_
     refine go_skip1 rfl rfl ?_
     refine go_skip1 rfl rfl ?_
     refine go_skip2 rfl (by repeat constructor) (by repeat constructor) rfl ?_
     refine go_skip0 rfl rfl ?_
     refine go_skip1 rfl rfl ?_
     refine go_pure1 Tk rfl rfl rfl ?_
     refine go_pure1 Tk rfl rfl rfl ?_
     refine go_re 6 (.bool (decide (a.a[k].n ∈ heldBy ⟨c.h, c.b.take (m + 1)⟩))) (by show some (Value.bool _) = _; first | rw [held_a (by omega) g2] | rw [held_b (by omega) g2 g3] | rw [held_c (by omega) g2 g3]) ?_
     refine go_nil ?_
     refine go_env [(2, _), (3, _), (5, _), (6, _), (7, _), (31, _), (32, _), (33, _), (34, _), (35, _), (36, _), (37, _), (38, _), (39, _), (40, _), (41, _), (42, _), (43, _), (44, _), (45, _), (46, _), (47, _), (48, _), (49, _), (50, _), (51, _), (52, _)] ⟨rfl, rfl, rfl, rfl, rfl, rfl, rfl, rfl, rfl, rfl, rfl, rfl, rfl, rfl, rfl, rfl, rfl, rfl, rfl, rfl, rfl, rfl, rfl, rfl, rfl, rfl, rfl, trivial⟩ ?_
     refine go_blk ?_
     refine go_region rfl ?_
     refine go_pure0 Tk rfl rfl rfl ?_
     refine go_pure0 Tk rfl rfl rfl ?_
     refine go_pure0 Tk rfl rfl rfl ?_
     refine go_nil ?_
     refine go_i64 7 rfl (by omega) (by omega) ?_
     refine go_back (m + 1) ⟨rfl, rfl, rfl, rfl, rfl, trivial⟩ (by repeat constructor) (by repeat constructor) (by omega) (by omega)
    ·intro g2
     (try simp only [decide_eq_true_eq, decide_eq_false_iff_not, Bool.not_eq_true', Bool.not_eq_false', Bool.not_eq_eq_eq_not, Bool.not_true, Bool.not_false, Int.not_lt, Int.not_le, beq_iff_eq, beq_eq_false_iff_ne, ne_eq] at g2)
     refine go_pure1 Tk rfl rfl rfl ?_
     refine go_pure1 Tk rfl rfl rfl ?_
     refine go_val2a rfl (ldv Tk rfl rfl rfl) rfl ?_
     refine go_val1 rfl (idx_val Tk rfl rfl rfl rfl rfl (by omega)) rfl ?_
     refine go_pure1 Tk rfl rfl rfl ?_
     refine go_val2a rfl (ldv Tk rfl rfl rfl) rfl ?_
     refine go_pure1 Tk rfl rfl rfl ?_
     refine go_pure1 Tk rfl rfl rfl ?_
     refine go_known 38 rfl ?_ ?_
     ·intro g3
      (try simp only [decide_eq_true_eq, decide_eq_false_iff_not, Bool.not_eq_true', Bool.not_eq_false', Bool.not_eq_eq_eq_not, Bool.not_true, Bool.not_false, Int.not_lt, Int.not_le, beq_iff_eq, beq_eq_false_iff_ne, ne_eq] at g3)
      refine go_pure1 Tk rfl rfl rfl ?_
      refine go_pure1 Tk rfl rfl rfl ?_
      refine go_pure1 Tk rfl rfl rfl ?_
      refine go_pure1 Tk rfl rfl rfl ?_
      refine go_val2a rfl (ldv Tk rfl rfl rfl) rfl ?_
      refine go_val1 rfl (idx_val Tk rfl rfl rfl rfl rfl (by omega)) rfl ?_
      refine go_pure1 Tk rfl rfl rfl ?_
      refine go_val2a rfl (ldv Tk rfl rfl rfl) rfl ?_
      refine go_val2a rfl (ldv Tk rfl rfl rfl) rfl ?_
      refine go_val1 rfl (idx_val Tk rfl rfl rfl rfl rfl (by omega)) rfl ?_
      refine go_pure1 Tk rfl rfl rfl ?_
      refine go_val2a rfl (ldv Tk rfl rfl rfl) rfl ?_
      refine go_call (ref11in c.b[m].a A2 c2 a.a[k].n) rfl rfl (by rfl) rfl (by repeat constructor) (by repeat constructor) (fun h => nomatch h) ?_
      rintro _ _ _ ⟨rfl, rfl, rfl⟩
      refine go_pure1 Tk rfl rfl rfl ?_
      refine go_pure1 Tk rfl rfl rfl ?_
      refine go_pure1 Tk rfl rfl rfl ?_
      refine go_re 6 (.bool (decide (a.a[k].n ∈ heldBy ⟨c.h, c.b.take (m + 1)⟩))) (by show some (Value.bool _) = _; first | rw [held_a (by omega) g2] | rw [held_b (by omega) g2 g3] | rw [held_c (by omega) g2 g3]) ?_
      refine go_nil ?_
      refine go_env [(2, _), (3, _), (5, _), (6, _), (7, _), (31, _), (32, _), (33, _), (34, _), (35, _), (36, _), (37, _), (38, _), (39, _), (40, _), (41, _), (42, _), (43, _), (44, _), (45, _), (46, _), (47, _), (48, _), (49, _), (50, _), (51, _), (52, _)] ⟨rfl, rfl, rfl, rfl, rfl, rfl, rfl, rfl, rfl, rfl, rfl, rfl, rfl, rfl, rfl, rfl, rfl, rfl, rfl, rfl, rfl, rfl, rfl, rfl, rfl, rfl, rfl, trivial⟩ ?_
      refine go_blk ?_
      refine go_region rfl ?_
      refine go_pure0 Tk rfl rfl rfl ?_
      refine go_pure0 Tk rfl rfl rfl ?_
      refine go_pure0 Tk rfl rfl rfl ?_
      refine go_nil ?_
      refine go_i64 7 rfl (by omega) (by omega) ?_
      refine go_back (m + 1) ⟨rfl, rfl, rfl, rfl, rfl, trivial⟩ (by repeat constructor) (by repeat constructor) (by omega) (by omega)
     ·intro g3
      (try simp only [decide_eq_true_eq, decide_eq_false_iff_not, Bool.not_eq_true', Bool.not_eq_false', Bool.not_eq_eq_eq_not, Bool.not_true, Bool.not_false, Int.not_lt, Int.not_le, beq_iff_eq, beq_eq_false_iff_ne, ne_eq] at g3)
      refine go_skip1 rfl rfl ?_
      refine go_skip1 rfl rfl ?_
      refine go_skip1 rfl rfl ?_
      refine go_skip1 rfl rfl ?_
      refine go_skip2 rfl (by repeat constructor) (by repeat constructor) rfl ?_
      refine go_skip1 rfl rfl ?_
      refine go_skip1 rfl rfl ?_
      refine go_skip2 rfl (by repeat constructor) (by repeat constructor) rfl ?_
      refine go_skip2 rfl (by repeat constructor) (by repeat constructor) rfl ?_
      refine go_skip1 rfl rfl ?_
      refine go_skip1 rfl rfl ?_
      refine go_skip2 rfl (by repeat constructor) (by repeat constructor) rfl ?_
      refine go_skip0 rfl rfl ?_
      refine go_pure1 Tk rfl rfl rfl ?_
      refine go_pure1 Tk rfl rfl rfl ?_
      refine go_pure1 Tk rfl rfl rfl ?_
      refine go_re 6 (.bool (decide (a.a[k].n ∈ heldBy ⟨c.h, c.b.take (m + 1)⟩))) (by show some (Value.bool _) = _; first | rw [held_a (by omega) g2] | rw [held_b (by omega) g2 g3] | rw [held_c (by omega) g2 g3]) ?_
      refine go_nil ?_
      refine go_env [(2, _), (3, _), (5, _), (6, _), (7, _), (31, _), (32, _), (33, _), (34, _), (35, _), (36, _), (37, _), (38, _), (39, _), (40, _), (41, _), (42, _), (43, _), (44, _), (45, _), (46, _), (47, _), (48, _), (49, _), (50, _), (51, _), (52, _)] ⟨rfl, rfl, rfl, rfl, rfl, rfl, rfl, rfl, rfl, rfl, rfl, rfl, rfl, rfl, rfl, rfl, rfl, rfl, rfl, rfl, rfl, rfl, rfl, rfl, rfl, rfl, rfl, trivial⟩ ?_
      refine go_blk ?_
      refine go_region rfl ?_
      refine go_pure0 Tk rfl rfl rfl ?_
      refine go_pure0 Tk rfl rfl rfl ?_
      refine go_pure0 Tk rfl rfl rfl ?_
      refine go_nil ?_
      refine go_i64 7 rfl (by omega) (by omega) ?_
      refine go_back (m + 1) ⟨rfl, rfl, rfl, rfl, rfl, trivial⟩ (by repeat constructor) (by repeat constructor) (by omega) (by omega)
   ·intro hq2
    refine go_exit rfl ?_
    refine go_seq ?_
    refine go_region rfl ?_
    refine go_pure0 Tk rfl rfl rfl ?_
    refine go_pure0 Tk rfl rfl rfl ?_
    refine go_nil ?_
    refine go_env [(2, _), (3, _), (5, _), (55, _)] ⟨rfl, rfl, rfl, rfl, trivial⟩ ?_
    refine go_cond rfl ?_ ?_
    ·intro g4
     (try simp only [decide_eq_true_eq, decide_eq_false_iff_not, Bool.not_eq_true', Bool.not_eq_false', Bool.not_eq_eq_eq_not, Bool.not_true, Bool.not_false, Int.not_lt, Int.not_le, beq_iff_eq, beq_eq_false_iff_ne, ne_eq] at g4)
     refine go_seq ?_
     refine go_region rfl ?_
     refine go_pure0 Tk rfl rfl rfl ?_
     refine go_nil ?_
     refine go_env [(4, _)] ⟨rfl, trivial⟩ ?_
     refine go_ret ⟨rfl, rfl⟩ _ _ (res1 (by rfl) (.tmp rfl)) ⟨by rw [heldIn_no (List.getElem_mem _) g1 (fun q => by rw [List.take_of_length_le (by omega)] at g4; exact g4 q)], rfl, rfl⟩ (by repeat constructor) (by repeat constructor)
    ·intro g4
     (try simp only [decide_eq_true_eq, decide_eq_false_iff_not, Bool.not_eq_true', Bool.not_eq_false', Bool.not_eq_eq_eq_not, Bool.not_true, Bool.not_false, Int.not_lt, Int.not_le, beq_iff_eq, beq_eq_false_iff_ne, ne_eq] at g4)
     refine go_skip ?_
     refine go_blk ?_
     refine go_region rfl ?_
     refine go_pure0 Tk rfl rfl rfl ?_
     refine go_pure0 Tk rfl rfl rfl ?_
     refine go_pure0 Tk rfl rfl rfl ?_
     refine go_nil ?_
     refine go_i64 5 rfl (by omega) (by omega) ?_
     refine go_back (k + 1) ⟨rfl, rfl, rfl, trivial⟩ (by repeat constructor) (by repeat constructor) (⟨by omega, mem_take_next (by omega) hz (fun q => by first | exact absurd (g1.symm.trans q) (by decide) | exact held_full (m := m) (by omega) (by first | exact g4 | simpa using g4))⟩) (by omega)
 ·intro hq1
  refine go_exit rfl ?_
  refine go_seq ?_
  refine go_region rfl ?_
  refine go_pure0 Tk rfl rfl rfl ?_
  refine go_nil ?_
  refine go_env [(4, _)] ⟨rfl, trivial⟩ ?_
  refine go_ret ⟨rfl, rfl⟩ _ _ (res1 (by rfl) (.tmp rfl)) ⟨by rw [heldIn_yes (by rw [List.take_of_length_le (by omega)] at hz; exact hz)], rfl, rfl⟩ (by repeat constructor) (by repeat constructor)

set_option maxHeartbeats 2000000 in
set_option maxRecDepth 20000 in
theorem ref11Safe (c : Cl) (CA : Option Addr) (cc : Nat) (CB : Option Addr) (cd : Nat) :
    Spec Tryz.prog 73 #[.agg #[.int .u32 c.h.p, .slice CA c.h.a.length cc, .slice CB c.b.length cd]] [sl tTm CA cc c.h.a, sl tLi CB cd c.b] [] (fun v Ps' Os' => v = .bool (heldC c) ∧ Ps' = [] ∧ Os' = []) := by
 refine spec_of (fn := Tryz.f73) (args := [.agg #[.int .u32 c.h.p, .slice CA c.h.a.length cc, .slice CB c.b.length cd]]) 33 Tryz.func73 rfl (by kernel_rfl) Tryz.ntmps73 (Nat.le_of_ble_eq_true rfl) (fun w0 hp0 hf0 => ?_)
 refine go_seq ?_
 refine go_region rfl ?_
 refine go_box Tk rfl rfl rfl rfl (by rfl) rfl rfl (fun h => nomatch h) ?_
 intro bC
 refine go_pure0 Tk rfl rfl rfl ?_
 refine go_nil ?_
 refine go_freeze_pt (b := bC) (by repeat constructor) ?_
 refine go_env [(1, _)] ⟨rfl, trivial⟩ ?_
 refine go_seq ?_
 refine go_seq ?_
 refine go_len (xs := c.b) (by repeat constructor) (fun l0 m0 => ?_)
 refine go_region rfl ?_
 refine go_val0 rfl (ldv Tk rfl rfl rfl) rfl ?_
 refine go_pure0 Tk rfl rfl rfl ?_
 refine go_val0 rfl (ldv Tk rfl rfl rfl) rfl ?_
 refine go_call (ref11held c CA cc CB cd c.h CA cc) rfl rfl (by rfl) rfl (by repeat constructor) (by repeat constructor) (fun h => nomatch h) ?_
 rintro _ _ _ ⟨rfl, rfl, rfl⟩
 refine go_pure0 Tk rfl rfl rfl ?_
 refine go_nil ?_
 refine go_env [(1, _), (8, _)] ⟨rfl, rfl, trivial⟩ ?_
 refine go_cond rfl ?_ ?_
 ·intro g1
  (try simp only [decide_eq_true_eq, decide_eq_false_iff_not, Bool.not_eq_true', Bool.not_eq_false', Bool.not_eq_eq_eq_not, Bool.not_true, Bool.not_false, Int.not_lt, Int.not_le, beq_iff_eq, beq_eq_false_iff_ne, ne_eq] at g1)
  refine go_seq ?_
  refine go_region rfl ?_
  refine go_pure0 Tk rfl rfl rfl ?_
  refine go_nil ?_
  refine go_env [(2, _)] ⟨rfl, trivial⟩ ?_
  refine go_ret ⟨rfl, rfl⟩ _ _ (res1 (by rfl) (.tmp rfl)) ⟨by rw [heldC_no (fun q => absurd (g1.symm.trans (heldIn_yes q.1)) (by decide))], rfl, rfl⟩ (by repeat constructor) (by repeat constructor)
 ·intro g1
  (try simp only [decide_eq_true_eq, decide_eq_false_iff_not, Bool.not_eq_true', Bool.not_eq_false', Bool.not_eq_eq_eq_not, Bool.not_true, Bool.not_false, Int.not_lt, Int.not_le, beq_iff_eq, beq_eq_false_iff_ne, ne_eq] at g1)
  refine go_skip ?_
  refine go_seq ?_
  refine go_seq ?_
  refine go_region rfl ?_
  refine go_pure0 Tk rfl rfl rfl ?_
  refine go_nil ?_
  refine go_env [(1, _), (3, _)] ⟨rfl, rfl, trivial⟩ ?_
  refine go_block ?_
  refine go_loop' (X := Nat) (fun k => [(3, .int .i64 (k : Int))]) [(1, _)] (fun _ => []) (fun k => k ≤ c.b.length ∧ ∀ l ∈ c.b.take k, l.no = true → heldIn c l.a = true) (fun k => c.b.length - k) (0) ⟨rfl, rfl, trivial⟩ (by repeat constructor) ⟨by omega, by simp⟩ ?_
  intro k ⟨hk, hz⟩
  refine go_seq ?_
  refine go_seq ?_
  refine go_region rfl ?_
  refine go_pure0 Tk rfl rfl rfl ?_
  refine go_pure0 Tk rfl rfl rfl ?_
  refine go_val0 rfl (ldv Tk rfl rfl rfl) rfl ?_
  refine go_pure0 Tk rfl rfl rfl ?_
  refine go_pure0 Tk rfl rfl rfl ?_
  refine go_nil ?_
  refine go_env [(1, _), (3, _), (13, _)] ⟨rfl, rfl, rfl, trivial⟩ ?_
  refine go_condD rfl ?_ ?_
  ·intro hq1
   refine go_skip ?_
   refine go_seq ?_
   refine go_block ?_
   refine go_seq ?_
   refine go_elem_li (xs := c.b) (by repeat constructor) (k) (List.getElem?_eq_getElem (by omega)) (fun b1 o1 A1 c1 hA => ?_); cases hA
   refine go_draw ([cl bC 0 [.int .u32 c.h.p, .slice CA c.h.a.length cc, .slice (some ⟨b1, o1, none⟩) c.b.length cd], cl b1 (o1 + k * 3) [.bool c.b[k].no, .int .u32 c.b[k].a.p, .slice A1 c.b[k].a.a.length c1]]) ([]) [1, 5, 7, 9, 13] (SL.pre [(1, 0), (1, 2), (2, 1), (1, 3), (1, 4), (2, 5), (1, 6), (1, 8), (1, 10), (2, 7), (2, 9), (1, 11), (1, 12), (2, 13), (0, 14), (1, 15), (1, 16)] .nil) mixed rfl (by kernel_rfl) ?_
   refine go_pure1 Tk rfl rfl rfl ?_
   refine go_pure1 Tk rfl rfl rfl ?_
   refine go_val2a rfl (ldv Tk rfl rfl rfl) rfl ?_
   refine go_val1 rfl (idx_val Tk rfl rfl rfl rfl rfl (by omega)) rfl ?_
   refine go_pure1 Tk rfl rfl rfl ?_
   refine go_val2a rfl (ldv Tk rfl rfl rfl) rfl ?_
   refine go_pure1 Tk rfl rfl rfl ?_
   refine go_known 22 rfl ?_ ?_
   ·intro g2
    (try simp only [decide_eq_true_eq, decide_eq_false_iff_not, Bool.not_eq_true', Bool.not_eq_false', Bool.not_eq_eq_eq_not, Bool.not_true, Bool.not_false, Int.not_lt, Int.not_le, beq_iff_eq, beq_eq_false_iff_ne, ne_eq] at g2)
    refine go_pure1 Tk rfl rfl rfl ?_
    refine go_pure1 Tk rfl rfl rfl ?_
    refine go_val2a rfl (ldv Tk rfl rfl rfl) rfl ?_
    refine go_val2a rfl (ldv Tk rfl rfl rfl) rfl ?_
    refine go_val1 rfl (idx_val Tk rfl rfl rfl rfl rfl (by omega)) rfl ?_
    refine go_pure1 Tk rfl rfl rfl ?_
    refine go_val2a rfl (ldv Tk rfl rfl rfl) rfl ?_
    refine go_call (ref11held c CA cc (some ⟨b1, o1, none⟩) cd c.b[k].a A1 c1) rfl rfl (by rfl) rfl (by repeat constructor) (by repeat constructor) (fun h => nomatch h) ?_
    rintro _ _ _ ⟨rfl, rfl, rfl⟩
    refine go_pure1 Tk rfl rfl rfl ?_
    refine go_pure1 Tk rfl rfl rfl ?_
    refine go_nil ?_
    refine go_env [(1, _), (3, _), (23, _), (24, _), (25, _), (26, _), (27, _), (28, _), (29, _), (30, _), (31, _), (32, _)] ⟨rfl, rfl, rfl, rfl, rfl, rfl, rfl, rfl, rfl, rfl, rfl, rfl, trivial⟩ ?_
    refine go_cond rfl ?_ ?_
    ·intro g3
     (try simp only [decide_eq_true_eq, decide_eq_false_iff_not, Bool.not_eq_true', Bool.not_eq_false', Bool.not_eq_eq_eq_not, Bool.not_true, Bool.not_false, Int.not_lt, Int.not_le, beq_iff_eq, beq_eq_false_iff_ne, ne_eq] at g3)
     refine go_seq ?_
     refine go_region rfl ?_
     refine go_pure0 Tk rfl rfl rfl ?_
     refine go_nil ?_
     refine go_env [(2, _)] ⟨rfl, trivial⟩ ?_
     refine go_ret ⟨rfl, rfl⟩ _ _ (res1 (by rfl) (.tmp rfl)) ⟨by rw [heldC_no (fun q => absurd (g3.symm.trans (heldIn_yes (q.2 _ (List.getElem_mem _) g2))) (by decide))], rfl, rfl⟩ (by repeat constructor) (by repeat constructor)
    ·intro g3
     (try simp only [decide_eq_true_eq, decide_eq_false_iff_not, Bool.not_eq_true', Bool.not_eq_false', Bool.not_eq_eq_eq_not, Bool.not_true, Bool.not_false, Int.not_lt, Int.not_le, beq_iff_eq, beq_eq_false_iff_ne, ne_eq] at g3)
     refine go_skip ?_
     refine go_blk ?_
     refine go_region rfl ?_
     refine go_pure0 Tk rfl rfl rfl ?_
     refine go_pure0 Tk rfl rfl rfl ?_
     refine go_pure0 Tk rfl rfl rfl ?_
     refine go_nil ?_
     refine go_i64 3 rfl (by omega) (by omega) ?_
     refine go_back (k + 1) ⟨rfl, rfl, trivial⟩ (by repeat constructor) (by repeat constructor) (⟨by omega, mem_take_next (by omega) hz (fun q => by first | exact absurd (g2.symm.trans q) (by decide) | exact g3)⟩) (by omega)
   ·intro g2
    (try simp only [decide_eq_true_eq, decide_eq_false_iff_not, Bool.not_eq_true', Bool.not_eq_false', Bool.not_eq_eq_eq_not, Bool.not_true, Bool.not_false, Int.not_lt, Int.not_le, beq_iff_eq, beq_eq_false_iff_ne, ne_eq] at g2)
    refine go_skip1 rfl rfl ?_
    refine go_skip1 rfl rfl ?_
    refine go_skip2 rfl (by repeat constructor) (by repeat constructor) rfl ?_
    refine go_skip2 rfl (by repeat constructor) (by repeat constructor) rfl ?_
    refine go_skip1 rfl rfl ?_
    refine go_skip1 rfl rfl ?_
    refine go_skip2 rfl (by repeat constructor) (by repeat constructor) rfl ?_
    refine go_skip0 rfl rfl ?_
    refine go_skip1 rfl rfl ?_
    refine go_pure1 Tk rfl rfl rfl ?_
    refine go_nil ?_
    refine go_env [(1, _), (3, _), (23, _), (24, _), (25, _), (26, _), (27, _), (28, _), (29, _), (30, _), (31, _), (32, _)] ⟨rfl, rfl, rfl, rfl, rfl, rfl, rfl, rfl, rfl, rfl, rfl, rfl, trivial⟩ ?_
    refine go_cond_f rfl ?_
    refine go_skip ?_
    refine go_blk ?_
    refine go_region rfl ?_
    refine go_pure0 Tk rfl rfl rfl ?_
    refine go_pure0 Tk rfl rfl rfl ?_
    refine go_pure0 Tk rfl rfl rfl ?_
    refine go_nil ?_
    refine go_i64 3 rfl (by omega) (by omega) ?_
    refine go_back (k + 1) ⟨rfl, rfl, trivial⟩ (by repeat constructor) (by repeat constructor) (⟨by omega, mem_take_next (by omega) hz (fun q => by first | exact absurd (g2.symm.trans q) (by decide) | exact g3)⟩) (by omega)
  ·intro hq1
   refine go_exit rfl ?_
   refine go_seq ?_
   refine go_region rfl ?_
   refine go_pure0 Tk rfl rfl rfl ?_
   refine go_nil ?_
   refine go_env [(2, _)] ⟨rfl, trivial⟩ ?_
   refine go_ret ⟨rfl, rfl⟩ _ _ (res1 (by rfl) (.tmp rfl)) ⟨by rw [heldC_iff.2 ⟨heldIn_iff.1 g1, fun l hl e => heldIn_iff.1 (by rw [List.take_of_length_le (by omega)] at hz; exact hz l hl e)⟩], rfl, rfl⟩ (by repeat constructor) (by repeat constructor)

set_option maxHeartbeats 2000000 in
set_option maxRecDepth 20000 in
theorem ref11Atoms (c : Cl) (CA : Option Addr) (cc : Nat) (CB : Option Addr) (cd : Nat) (hn : c.b.length ≤ 1000) :
    Spec Tryz.prog 93 #[.agg #[.int .u32 c.h.p, .slice CA c.h.a.length cc, .slice CB c.b.length cd]] [sl tTm CA cc c.h.a, sl tLi CB cd c.b] [] (fun v Ps' Os' => ∃ A k, v = .slice A (atomsC c).length k ∧ Ps' = [sl tAm A k (atomsC c)] ∧ Os' = []) := by
 refine spec_of (fn := Tryz.f93) (args := [.agg #[.int .u32 c.h.p, .slice CA c.h.a.length cc, .slice CB c.b.length cd]]) 25 Tryz.func93 rfl (by kernel_rfl) Tryz.ntmps93 (Nat.le_of_ble_eq_true rfl) (fun w0 hp0 hf0 => ?_)
 refine go_seq ?_
 refine go_region rfl ?_
 refine go_box Tk rfl rfl rfl rfl (by rfl) rfl rfl (fun h => nomatch h) ?_
 intro bC
 refine go_pure0 Tk rfl rfl rfl ?_
 refine go_nil ?_
 refine go_freeze_pt (b := bC) (by repeat constructor) ?_
 refine go_env [(1, _)] ⟨rfl, trivial⟩ ?_
 refine go_seq ?_
 refine go_len (xs := c.b) (by repeat constructor) (fun l0 m0 => ?_)
 refine go_region rfl ?_
 refine go_pure0 Tk rfl rfl rfl ?_
 refine go_val0 rfl (ldv Tk rfl rfl rfl) rfl ?_
 refine go_bslice Tk rfl rfl rfl rfl rfl rfl rfl rfl (fun h => nomatch h) ?_
 intro bl
 refine go_lit_ol (b := bl) tAm [c.h] (by repeat constructor) (fun hp a => ⟨[_, _], [], rfl, tAm_mk (a (sl tTm CA cc c.h.a) (by repeat constructor)), rfl⟩) (by simp) ?_
 refine go_same (A := ol tAm 25 _ _ [c.h]) (B := ol tAm 25 (some ⟨bl, 0, none⟩) 1 (atomsC ⟨c.h, c.b.take 0⟩)) (by repeat constructor) rfl ?_
 refine go_pure0 Tk rfl rfl rfl ?_
 refine go_nil ?_
 refine go_env [(1, _), (3, _)] ⟨rfl, rfl, trivial⟩ ?_
 refine go_seq ?_
 refine go_seq ?_
 refine go_region rfl ?_
 refine go_pure0 Tk rfl rfl rfl ?_
 refine go_nil ?_
 refine go_env [(1, _), (3, _), (4, _)] ⟨rfl, rfl, rfl, trivial⟩ ?_
 refine go_block ?_
 refine go_loop' (X := Nat × Option Addr × Nat) (fun x => [(3, .slice x.2.1 (atomsC ⟨c.h, c.b.take x.1⟩).length x.2.2), (4, .int .i64 (x.1 : Int))]) [(1, _)] (fun x => [ol tAm 25 x.2.1 x.2.2 (atomsC ⟨c.h, c.b.take x.1⟩)]) (fun x => x.1 ≤ c.b.length) (fun x => c.b.length - x.1) ((0, some ⟨bl, 0, none⟩, 1)) ⟨rfl, rfl, rfl, trivial⟩ (by repeat constructor) (by omega) ?_
 intro ⟨k, A1, k1⟩ hk
 simp only at hk ⊢
 have hal : (atomsC ⟨c.h, c.b.take k⟩).length ≤ 1001 := by rw [atomsC_len]; simp only [List.length_take]; omega
 refine go_seq ?_
 refine go_seq ?_
 refine go_region rfl ?_
 refine go_pure0 Tk rfl rfl rfl ?_
 refine go_pure0 Tk rfl rfl rfl ?_
 refine go_val0 rfl (ldv Tk rfl rfl rfl) rfl ?_
 refine go_pure0 Tk rfl rfl rfl ?_
 refine go_pure0 Tk rfl rfl rfl ?_
 refine go_nil ?_
 refine go_env [(1, _), (3, _), (4, _), (12, _)] ⟨rfl, rfl, rfl, rfl, trivial⟩ ?_
 refine go_condD rfl ?_ ?_
 ·intro hq1
  refine go_skip ?_
  refine go_seq ?_
  refine go_block ?_
  refine go_elem_li (xs := c.b) (by repeat constructor) (k) (List.getElem?_eq_getElem (by omega)) (fun b1 o1 A2 c2 hA => ?_); cases hA
  refine go_region rfl ?_
  refine go_pure0 Tk rfl rfl rfl ?_
  refine go_pure0 Tk rfl rfl rfl ?_
  refine go_val0 rfl (ldv Tk rfl rfl rfl) rfl ?_
  refine go_pure0 Tk rfl rfl rfl ?_
  refine go_val0 rfl (idx_val Tk rfl rfl rfl rfl rfl (by omega)) rfl ?_
  refine go_pure0 Tk rfl rfl rfl ?_
  refine go_val0 rfl (ldv Tk rfl rfl rfl) rfl ?_
  refine go_bslice Tk rfl rfl rfl rfl rfl rfl rfl rfl (fun h => nomatch h) ?_
  intro b1
  refine go_append1 (T := tAm) (xs := atomsC ⟨c.h, c.b.take k⟩) Tk (c.b[k].a) rfl rfl rfl rfl rfl rfl rfl rfl rfl (by repeat constructor) (by repeat constructor) rfl (ent_am (by repeat constructor)) (by omega) (by first | exact (fun _ _ _ => satA) | exact (fun h => nomatch h) | exact (fun h => nomatch (Eq.symm h).trans (show _ = false by kernel_rfl))) ?_
  intro A3 c3
  refine go_pure0 Tk rfl rfl rfl ?_
  refine go_nil ?_
  rw [atomsC_next (by omega)]
  refine go_env [(1, _), (3, _), (4, _)] ⟨rfl, rfl, rfl, trivial⟩ ?_
  refine go_blk ?_
  refine go_region rfl ?_
  refine go_pure0 Tk rfl rfl rfl ?_
  refine go_pure0 Tk rfl rfl rfl ?_
  refine go_pure0 Tk rfl rfl rfl ?_
  refine go_nil ?_
  refine go_i64 4 rfl (by omega) (by omega) ?_
  refine go_back (k + 1, A3, c3) ⟨rfl, rfl, rfl, trivial⟩ (by repeat constructor) (by repeat constructor) (by show k + 1 ≤ _; omega) (by show c.b.length - (k + 1) < c.b.length - k; omega)
 ·intro hq1
  refine go_exit rfl ?_
  refine go_seq ?_
  refine go_same (A := ol tAm 25 A1 k1 (atomsC ⟨c.h, c.b.take k⟩)) (B := ol tAm 25 A1 k1 (atomsC c)) (by repeat constructor) (by rw [List.take_of_length_le (by omega)]) ?_
  refine go_freeze_ol (xs := atomsC c) (by repeat constructor) ?_
  refine go_region rfl ?_
  refine go_pure0 Tk rfl rfl rfl ?_
  refine go_pure0 Tk rfl rfl rfl ?_
  refine go_nil ?_
  refine go_env [(2, _)] ⟨rfl, trivial⟩ ?_
  refine go_ret ⟨rfl, rfl⟩ _ _ (res1 (by rfl) (.tmp rfl)) ⟨A1, k1, by rw [List.take_of_length_le (by omega)], rfl, rfl⟩ (by repeat constructor) (by repeat constructor)

set_option maxHeartbeats 2000000 in
set_option maxRecDepth 20000 in
theorem ref11lengths (A : Option Addr) (c : Nat) (l : List Cl) (hn : l.length ≤ 1000) (hb : ∀ x ∈ l, x.b.length ≤ 1000) :
    Spec Tryz.prog 74 #[.slice A l.length c] [sl tCl A c l] [] (fun v Ps' Os' => ∃ r, v = .bool r ∧ (r = true ↔ sameLen (atomsL l)) ∧ Ps' = [] ∧ Os' = []) := by
 refine spec_of (fn := Tryz.f74) (args := [.slice A l.length c]) 57 Tryz.func74 rfl (by kernel_rfl) Tryz.ntmps74 (Nat.le_of_ble_eq_true rfl) (fun w0 hp0 hf0 => ?_)
 refine go_seq ?_
 refine go_region rfl ?_
 refine go_pure0 Tk rfl rfl rfl ?_
 refine go_nil ?_
 refine go_env [(0, _)] ⟨rfl, trivial⟩ ?_
 refine go_seq ?_
 refine go_len (xs := l) (by repeat constructor) (fun l0 m0 => ?_)
 refine go_region rfl ?_
 refine go_pure0 Tk rfl rfl rfl ?_
 refine go_own_nil tAm 25 none ?_
 refine go_same (A := ol tAm 25 none 0 []) (B := ol tAm 25 none 0 (atomsL (l.take 0))) (by repeat constructor) rfl ?_
 refine go_nil ?_
 refine go_env [(0, _), (3, _)] ⟨rfl, rfl, trivial⟩ ?_
 refine go_seq ?_
 refine go_seq ?_
 refine go_region rfl ?_
 refine go_pure0 Tk rfl rfl rfl ?_
 refine go_nil ?_
 refine go_env [(0, _), (3, _), (4, _)] ⟨rfl, rfl, rfl, trivial⟩ ?_
 refine go_block ?_
 refine go_loop' (X := Nat × Option Addr × Nat) (fun x => [(3, .slice x.2.1 (atomsL (l.take x.1)).length x.2.2), (4, .int .i64 (x.1 : Int))]) [(0, _)] (fun x => [ol tAm 25 x.2.1 x.2.2 (atomsL (l.take x.1))]) (fun x => x.1 ≤ l.length ∧ (atomsL (l.take x.1)).length ≤ x.1 * 1001) (fun x => l.length - x.1) ((0, none, 0)) ⟨rfl, rfl, rfl, trivial⟩ (by repeat constructor) ⟨by omega, by simp [atomsL]⟩ ?_
 intro ⟨k, A1, c1⟩ ⟨hk, hal⟩
 simp only at hk hal ⊢
 refine go_seq ?_
 refine go_seq ?_
 refine go_region rfl ?_
 refine go_pure0 Tk rfl rfl rfl ?_
 refine go_pure0 Tk rfl rfl rfl ?_
 refine go_pure0 Tk rfl rfl rfl ?_
 refine go_pure0 Tk rfl rfl rfl ?_
 refine go_nil ?_
 refine go_env [(0, _), (3, _), (4, _), (10, _)] ⟨rfl, rfl, rfl, rfl, trivial⟩ ?_
 refine go_condD rfl ?_ ?_
 ·intro hq1
  refine go_skip ?_
  refine go_seq ?_
  refine go_block ?_
  refine go_elem_cl (xs := l) (by repeat constructor) (k) (List.getElem?_eq_getElem (by omega)) (fun b1 o1 A2 c2 B2 d2 hA => ?_); cases hA
  have hbk := hb l[k] (List.getElem_mem _)
  have hacl := atomsC_len l[k]
  refine go_region rfl ?_
  refine go_pure0 Tk rfl rfl rfl ?_
  refine go_pure0 Tk rfl rfl rfl ?_
  refine go_pure0 Tk rfl rfl rfl ?_
  refine go_val0 rfl (idx_val Tk rfl rfl rfl rfl rfl (by omega)) rfl ?_
  refine go_val0 rfl (ldv Tk rfl rfl rfl) rfl ?_
  refine go_call (ref11Atoms l[k] A2 c2 B2 d2 hbk) rfl rfl (by rfl) rfl (by repeat constructor) (by repeat constructor) (fun h => nomatch h) ?_
  rintro _ _ _ ⟨A4, k4, rfl, rfl, rfl⟩
  refine go_appendN (T := tAm) (xs := atomsL (l.take k)) (ys := atomsC l[k]) Tk rfl rfl rfl rfl rfl rfl rfl rfl rfl (by repeat constructor) rfl (by repeat constructor) (by omega) (by first | exact (fun _ _ _ => satA) | exact (fun h => nomatch h) | exact (fun h => nomatch (Eq.symm h).trans (show _ = false by kernel_rfl))) ?_
  intro A3 c3
  refine go_pure0 Tk rfl rfl rfl ?_
  refine go_nil ?_
  refine go_env [(0, _), (3, _), (4, _)] ⟨rfl, rfl, rfl, trivial⟩ ?_
  refine go_blk ?_
  refine go_region rfl ?_
  refine go_pure0 Tk rfl rfl rfl ?_
  refine go_pure0 Tk rfl rfl rfl ?_
  refine go_pure0 Tk rfl rfl rfl ?_
  refine go_nil ?_
  refine go_i64 4 rfl (by omega) (by omega) ?_
  rw [← atomsL_next (by omega)]
  refine go_back (k + 1, A3, c3) ⟨rfl, rfl, rfl, trivial⟩ (by repeat constructor) (by repeat constructor) ⟨by show k + 1 ≤ _; omega, by show (atomsL (l.take (k + 1))).length ≤ (k + 1) * 1001; rw [atomsL_next (by omega), List.length_append, atomsC_len]; omega⟩ (by show l.length - (k + 1) < l.length - k; omega)
 ·intro hq1
  refine go_exit rfl ?_
  refine go_seq ?_
  refine go_seq ?_
  rw [List.take_of_length_le (by omega)]
  rw [List.take_of_length_le (by omega)] at hal
  refine go_freeze_ol (xs := atomsL l) (by repeat constructor) ?_
  refine go_len (xs := atomsL l) (by repeat constructor) (fun l9 m9 => ?_)
  refine go_region rfl ?_
  refine go_pure0 Tk rfl rfl rfl ?_
  refine go_nil ?_
  refine go_env [(3, _), (5, _)] ⟨rfl, rfl, trivial⟩ ?_
  refine go_block ?_
  refine go_loop' (X := Nat) (fun i => [(5, .int .i64 (i : Int))]) [(3, _)] (fun _ => []) (fun i => i ≤ (atomsL l).length ∧ sameLen ((atomsL l).take i)) (fun i => (atomsL l).length - i) (0) ⟨rfl, rfl, trivial⟩ (by repeat constructor) ⟨by omega, by simp [sameLen]⟩ ?_
  intro i ⟨hi, hz⟩
  refine go_seq ?_
  refine go_seq ?_
  refine go_region rfl ?_
  refine go_pure0 Tk rfl rfl rfl ?_
  refine go_pure0 Tk rfl rfl rfl ?_
  refine go_pure0 Tk rfl rfl rfl ?_
  refine go_pure0 Tk rfl rfl rfl ?_
  refine go_nil ?_
  refine go_env [(3, _), (5, _), (23, _)] ⟨rfl, rfl, rfl, trivial⟩ ?_
  refine go_condD rfl ?_ ?_
  ·intro hq2
   refine go_skip ?_
   refine go_seq ?_
   refine go_block ?_
   refine go_seq ?_
   refine go_region rfl ?_
   refine go_pure0 Tk rfl rfl rfl ?_
   refine go_nil ?_
   refine go_env [(3, _), (5, _), (6, _)] ⟨rfl, rfl, rfl, trivial⟩ ?_
   refine go_block ?_
   refine go_loop' (X := Nat) (fun j => [(6, .int .i64 (j : Int))]) [(3, _), (5, _)] (fun _ => []) (fun j => j ≤ i ∧ ∀ b ∈ (atomsL l).take j, (atomsL l)[i].p = b.p → (atomsL l)[i].a.length = b.a.length) (fun j => i - j) (0) ⟨rfl, rfl, rfl, trivial⟩ (by repeat constructor) ⟨by omega, by simp⟩ ?_
   intro j ⟨hj, hy⟩
   refine go_seq ?_
   refine go_seq ?_
   have hil : i < (atomsL l).length := by omega
   refine go_region rfl ?_
   refine go_pure0 Tk rfl rfl rfl ?_
   refine go_pure0 Tk rfl rfl rfl ?_
   refine go_pure0 Tk rfl rfl rfl ?_
   refine go_nil ?_
   refine go_env [(3, _), (5, _), (6, _), (28, _)] ⟨rfl, rfl, rfl, rfl, trivial⟩ ?_
   refine go_condD rfl ?_ ?_
   ·intro hq3
    refine go_skip ?_
    refine go_seq ?_
    refine go_block ?_
    refine go_seq ?_
    refine go_elem_am (xs := atomsL l) (c := c1) (by repeat constructor) (i) (List.getElem?_eq_getElem (by omega)) (fun b5 o5 A5 c5 hA => ?_); cases hA
    refine go_elem_am (xs := atomsL l) (c := c1) (by repeat constructor) (j) (List.getElem?_eq_getElem (by omega)) (fun b6 o6 A6 c6 hA => ?_); cases hA
    refine go_draw ([cl b5 (o5 + i * 2) [.int .u32 (atomsL l)[i].p, .slice A5 (atomsL l)[i].a.length c5], cl b5 (o5 + j * 2) [.int .u32 (atomsL l)[j].p, .slice A6 (atomsL l)[j].a.length c6]]) ([]) [4, 9, 16, 22] (SL.pre [(1, 0), (1, 1), (1, 2), (1, 3), (1, 5), (1, 6), (1, 7), (1, 8), (2, 4), (2, 9), (1, 10), (1, 11), (1, 12), (1, 13), (1, 14), (1, 15), (1, 18), (1, 19), (1, 20), (1, 21), (2, 16), (1, 17), (2, 22), (1, 23), (1, 24), (1, 25)] .nil) mixed rfl (by kernel_rfl) ?_
    refine go_pure1 Tk rfl rfl rfl ?_
    refine go_pure1 Tk rfl rfl rfl ?_
    refine go_val1 rfl (idx_val Tk rfl rfl rfl rfl rfl (by omega)) rfl ?_
    refine go_pure1 Tk rfl rfl rfl ?_
    refine go_pure1 Tk rfl rfl rfl ?_
    refine go_pure1 Tk rfl rfl rfl ?_
    refine go_val1 rfl (idx_val Tk rfl rfl rfl rfl rfl (by omega)) rfl ?_
    refine go_pure1 Tk rfl rfl rfl ?_
    refine go_val2a rfl (ldv Tk rfl rfl rfl) rfl ?_
    refine go_val2a rfl (ldv Tk rfl rfl rfl) rfl ?_
    refine go_pure1 Tk rfl rfl rfl ?_
    refine go_pure1 Tk rfl rfl rfl ?_
    refine go_known 42 rfl ?_ ?_
    ·intro g1
     (try simp only [decide_eq_true_eq, decide_eq_false_iff_not, Bool.not_eq_true', Bool.not_eq_false', Bool.not_eq_eq_eq_not, Bool.not_true, Bool.not_false, Int.not_lt, Int.not_le, beq_iff_eq, beq_eq_false_iff_ne, ne_eq] at g1)
     refine go_pure1 Tk rfl rfl rfl ?_
     refine go_pure1 Tk rfl rfl rfl ?_
     refine go_val1 rfl (idx_val Tk rfl rfl rfl rfl rfl (by omega)) rfl ?_
     refine go_pure1 Tk rfl rfl rfl ?_
     refine go_pure1 Tk rfl rfl rfl ?_
     refine go_pure1 Tk rfl rfl rfl ?_
     refine go_val1 rfl (idx_val Tk rfl rfl rfl rfl rfl (by omega)) rfl ?_
     refine go_pure1 Tk rfl rfl rfl ?_
     refine go_val2a rfl (ldv Tk rfl rfl rfl) rfl ?_
     refine go_pure1 Tk rfl rfl rfl ?_
     refine go_val2a rfl (ldv Tk rfl rfl rfl) rfl ?_
     refine go_pure1 Tk rfl rfl rfl ?_
     refine go_pure1 Tk rfl rfl rfl ?_
     refine go_pure1 Tk rfl rfl rfl ?_
     refine go_nil ?_
     refine go_env [(3, _), (5, _), (6, _), (43, _), (44, _), (45, _), (46, _), (47, _), (48, _), (49, _), (50, _), (51, _), (52, _), (53, _), (54, _), (55, _), (56, _)] ⟨rfl, rfl, rfl, rfl, rfl, rfl, rfl, rfl, rfl, rfl, rfl, rfl, rfl, rfl, rfl, rfl, rfl, trivial⟩ ?_
     refine go_cond rfl ?_ ?_
     ·intro g2
      (try simp only [decide_eq_true_eq, decide_eq_false_iff_not, Bool.not_eq_true', Bool.not_eq_false', Bool.not_eq_eq_eq_not, Bool.not_true, Bool.not_false, Int.not_lt, Int.not_le, beq_iff_eq, beq_eq_false_iff_ne, ne_eq] at g2)
      refine go_seq ?_
      refine go_region rfl ?_
      refine go_pure0 Tk rfl rfl rfl ?_
      refine go_nil ?_
      refine go_env [(2, _)] ⟨rfl, trivial⟩ ?_
      refine go_ret ⟨rfl, rfl⟩ _ _ (res1 (by rfl) (.tmp rfl)) ⟨_, rfl, by first | exact ⟨fun h => (nomatch h), fun h => absurd (h _ (List.getElem_mem (by omega)) _ (List.getElem_mem (by omega)) g1) (by omega)⟩ | exact ⟨fun _ => by rw [List.take_of_length_le (by omega)] at hz; exact hz, fun _ => rfl⟩, rfl, rfl⟩ (by repeat constructor) (by repeat constructor)
     ·intro g2
      (try simp only [decide_eq_true_eq, decide_eq_false_iff_not, Bool.not_eq_true', Bool.not_eq_false', Bool.not_eq_eq_eq_not, Bool.not_true, Bool.not_false, Int.not_lt, Int.not_le, beq_iff_eq, beq_eq_false_iff_ne, ne_eq] at g2)
      refine go_skip ?_
      refine go_blk ?_
      refine go_region rfl ?_
      refine go_pure0 Tk rfl rfl rfl ?_
      refine go_pure0 Tk rfl rfl rfl ?_
      refine go_pure0 Tk rfl rfl rfl ?_
      refine go_nil ?_
      refine go_i64 6 rfl (by omega) (by omega) ?_
      refine go_back (j + 1) ⟨rfl, rfl, rfl, trivial⟩ (by repeat constructor) (by repeat constructor) (⟨by omega, mem_take_next (by omega) hy (fun q => by first | exact absurd q g1 | omega)⟩) (by omega)
    ·intro g1
     (try simp only [decide_eq_true_eq, decide_eq_false_iff_not, Bool.not_eq_true', Bool.not_eq_false', Bool.not_eq_eq_eq_not, Bool.not_true, Bool.not_false, Int.not_lt, Int.not_le, beq_iff_eq, beq_eq_false_iff_ne, ne_eq] at g1)
     refine go_skip1 rfl rfl ?_
     refine go_skip1 rfl rfl ?_
     refine go_skip1 rfl rfl ?_
     refine go_skip1 rfl rfl ?_
     refine go_skip1 rfl rfl ?_
     refine go_skip1 rfl rfl ?_
     refine go_skip1 rfl rfl ?_
     refine go_skip1 rfl rfl ?_
     refine go_skip2 rfl (by repeat constructor) (by repeat constructor) rfl ?_
     refine go_skip1 rfl rfl ?_
     refine go_skip2 rfl (by repeat constructor) (by repeat constructor) rfl ?_
     refine go_skip1 rfl rfl ?_
     refine go_skip1 rfl rfl ?_
     refine go_pure1 Tk rfl rfl rfl ?_
     refine go_nil ?_
     refine go_env [(3, _), (5, _), (6, _), (43, _), (44, _), (45, _), (46, _), (47, _), (48, _), (49, _), (50, _), (51, _), (52, _), (53, _), (54, _), (55, _), (56, _)] ⟨rfl, rfl, rfl, rfl, rfl, rfl, rfl, rfl, rfl, rfl, rfl, rfl, rfl, rfl, rfl, rfl, rfl, trivial⟩ ?_
     refine go_cond_f rfl ?_
     refine go_skip ?_
     refine go_blk ?_
     refine go_region rfl ?_
     refine go_pure0 Tk rfl rfl rfl ?_
     refine go_pure0 Tk rfl rfl rfl ?_
     refine go_pure0 Tk rfl rfl rfl ?_
     refine go_nil ?_
     refine go_i64 6 rfl (by omega) (by omega) ?_
     refine go_back (j + 1) ⟨rfl, rfl, rfl, trivial⟩ (by repeat constructor) (by repeat constructor) (⟨by omega, mem_take_next (by omega) hy (fun q => by first | exact absurd q g1 | omega)⟩) (by omega)
   ·intro hq3
    refine go_exit rfl ?_
    refine go_blk ?_
    refine go_region rfl ?_
    refine go_pure0 Tk rfl rfl rfl ?_
    refine go_pure0 Tk rfl rfl rfl ?_
    refine go_pure0 Tk rfl rfl rfl ?_
    refine go_nil ?_
    refine go_i64 5 rfl (by omega) (by omega) ?_
    refine go_back (i + 1) ⟨rfl, rfl, trivial⟩ (by repeat constructor) (by repeat constructor) (⟨by omega, sameLen_next (by omega) hz (by rw [show j = i from by omega] at hy; exact hy)⟩) (by omega)
  ·intro hq2
   refine go_exit rfl ?_
   refine go_seq ?_
   refine go_region rfl ?_
   refine go_pure0 Tk rfl rfl rfl ?_
   refine go_nil ?_
   refine go_env [(2, _)] ⟨rfl, trivial⟩ ?_
   refine go_ret ⟨rfl, rfl⟩ _ _ (res1 (by rfl) (.tmp rfl)) ⟨_, rfl, by first | exact ⟨fun h => (nomatch h), fun h => absurd (h _ (List.getElem_mem (by omega)) _ (List.getElem_mem (by omega)) g1) (by omega)⟩ | exact ⟨fun _ => by rw [List.take_of_length_le (by omega)] at hz; exact hz, fun _ => rfl⟩, rfl, rfl⟩ (by repeat constructor) (by repeat constructor)

set_option maxHeartbeats 2000000 in
set_option maxRecDepth 20000 in
theorem ref11Right (A : Option Addr) (c : Nat) (l : List Cl) (hb : ∀ x ∈ l, x.b.length ≤ 1000) :
    Spec Tryz.prog 56 #[.slice A l.length c] [sl tCl A c l] [] (fun v Ps' Os' => v = .tuple #[.int .i64 (rightC l).1, .int .i64 (rightC l).2] ∧ Ps' = [] ∧ Os' = []) := by
 refine spec_of (fn := Tryz.f56) (args := [.slice A l.length c]) 35 Tryz.func56 rfl (by kernel_rfl) Tryz.ntmps56 (Nat.le_of_ble_eq_true rfl) (fun w0 hp0 hf0 => ?_)
 refine go_seq ?_
 refine go_region rfl ?_
 refine go_pure0 Tk rfl rfl rfl ?_
 refine go_pure0 Tk rfl rfl rfl ?_
 refine go_nil ?_
 refine go_env [(0, _)] ⟨rfl, trivial⟩ ?_
 refine go_seq ?_
 refine go_seq ?_
 refine go_len (xs := l) (by repeat constructor) (fun l0 m0 => ?_)
 refine go_region rfl ?_
 refine go_pure0 Tk rfl rfl rfl ?_
 refine go_pure0 Tk rfl rfl rfl ?_
 refine go_pure0 Tk rfl rfl rfl ?_
 refine go_nil ?_
 refine go_env [(0, _), (7, _)] ⟨rfl, rfl, trivial⟩ ?_
 refine go_condD rfl ?_ ?_
 ·intro h1
  refine go_seq ?_
  refine go_region rfl ?_
  refine go_pure0 Tk rfl rfl rfl ?_
  refine go_pure0 Tk rfl rfl rfl ?_
  refine go_nil ?_
  refine go_env [(2, _), (3, _)] ⟨rfl, rfl, trivial⟩ ?_
  refine go_ret ⟨rfl, rfl⟩ _ _ (res2 (by rfl) (.tmp rfl) (.tmp rfl)) ⟨by unfold rightC; rw [if_pos (by omega)], rfl, rfl⟩ (by repeat constructor) (by repeat constructor)
 ·intro h1
  refine go_skip ?_
  refine go_seq ?_
  refine go_seq ?_
  refine go_region rfl ?_
  refine go_pure0 Tk rfl rfl rfl ?_
  refine go_nil ?_
  refine go_env [(0, _), (4, _)] ⟨rfl, rfl, trivial⟩ ?_
  refine go_block ?_
  refine go_loop' (X := Nat) (fun k => [(4, .int .i64 (k : Int))]) [(0, _)] (fun _ => []) (fun k => k ≤ l.length ∧ sameLen (atomsL (l.take k)) ∧ LensOf ((l.take k).foldl (fun L c => (clauseL L c).2) (fun _ => none)) (atomsL (l.take k)) ∧ rightF (fun _ => none) l 0 = rightF ((l.take k).foldl (fun L c => (clauseL L c).2) (fun _ => none)) (l.drop k) k) (fun k => l.length - k) (0) ⟨rfl, rfl, trivial⟩ (by repeat constructor) ⟨by omega, by simp [sameLen, atomsL], LensOf.nil, rfl⟩ ?_
  intro k ⟨hk, hs, hL, hz⟩
  refine go_seq ?_
  refine go_seq ?_
  refine go_region rfl ?_
  refine go_pure0 Tk rfl rfl rfl ?_
  refine go_pure0 Tk rfl rfl rfl ?_
  refine go_pure0 Tk rfl rfl rfl ?_
  refine go_pure0 Tk rfl rfl rfl ?_
  refine go_nil ?_
  refine go_env [(0, _), (4, _), (11, _)] ⟨rfl, rfl, rfl, trivial⟩ ?_
  refine go_condD rfl ?_ ?_
  ·intro hq1
   refine go_skip ?_
   refine go_seq ?_
   refine go_block ?_
   refine go_seq ?_
   refine go_seq ?_
   refine go_elem_cl (xs := l) (by repeat constructor) (k) (List.getElem?_eq_getElem (by omega)) (fun b1 o1 A1 c1 B1 d1 hA => ?_); cases hA
   refine go_region rfl ?_
   refine go_pure0 Tk rfl rfl rfl ?_
   refine go_pure0 Tk rfl rfl rfl ?_
   refine go_val0 rfl (idx_val Tk rfl rfl rfl rfl rfl (by omega)) rfl ?_
   refine go_val0 rfl (ldv Tk rfl rfl rfl) rfl ?_
   refine go_call (ref05May l[k] A1 c1 B1 d1) rfl rfl (by rfl) rfl (by repeat constructor) (by repeat constructor) (fun h => nomatch h) ?_
   rintro _ _ _ ⟨rfl, rfl, rfl⟩
   refine go_pure0 Tk rfl rfl rfl ?_
   refine go_nil ?_
   refine go_env [(0, _), (4, _), (19, _)] ⟨rfl, rfl, rfl, trivial⟩ ?_
   refine go_cond rfl ?_ ?_
   ·intro g1
    (try simp only [decide_eq_true_eq, decide_eq_false_iff_not, Bool.not_eq_true', Bool.not_eq_false', Bool.not_eq_eq_eq_not, Bool.not_true, Bool.not_false, Int.not_lt, Int.not_le, beq_iff_eq, beq_eq_false_iff_ne, ne_eq] at g1)
    refine go_seq ?_
    refine go_region rfl ?_
    refine go_pure0 Tk rfl rfl rfl ?_
    refine go_pure0 Tk rfl rfl rfl ?_
    refine go_pure0 Tk rfl rfl rfl ?_
    refine go_nil ?_
    refine go_env [(2, _), (3, _)] ⟨rfl, rfl, trivial⟩ ?_
    refine go_ret ⟨rfl, rfl⟩ _ _ (res2 (by rfl) (.tmp rfl) (.tmp rfl)) ⟨by unfold rightC; rw [if_neg (by omega), hz, right_bad (by omega) (by rw [show badC ((l.take k).foldl (fun L c => (clauseL L c).2) (fun _ => none)) l[k] = 8 by unfold badC; rw [if_pos g1]]; decide), show badC ((l.take k).foldl (fun L c => (clauseL L c).2) (fun _ => none)) l[k] = 8 by unfold badC; rw [if_pos g1]], rfl, rfl⟩ (by repeat constructor) (by repeat constructor)
   ·intro g1
    (try simp only [decide_eq_true_eq, decide_eq_false_iff_not, Bool.not_eq_true', Bool.not_eq_false', Bool.not_eq_eq_eq_not, Bool.not_true, Bool.not_false, Int.not_lt, Int.not_le, beq_iff_eq, beq_eq_false_iff_ne, ne_eq] at g1)
    refine go_skip ?_
    refine go_seq ?_
    refine go_seq ?_
    refine go_region rfl ?_
    refine go_pure0 Tk rfl rfl rfl ?_
    refine go_pure0 Tk rfl rfl rfl ?_
    refine go_val0 rfl (idx_val Tk rfl rfl rfl rfl rfl (by omega)) rfl ?_
    refine go_val0 rfl (ldv Tk rfl rfl rfl) rfl ?_
    refine go_call (ref11Safe l[k] A1 c1 B1 d1) rfl rfl (by rfl) rfl (by repeat constructor) (by repeat constructor) (fun h => nomatch h) ?_
    rintro _ _ _ ⟨rfl, rfl, rfl⟩
    refine go_pure0 Tk rfl rfl rfl ?_
    refine go_nil ?_
    refine go_env [(0, _), (4, _), (26, _)] ⟨rfl, rfl, rfl, trivial⟩ ?_
    refine go_cond rfl ?_ ?_
    ·intro g2
     (try simp only [decide_eq_true_eq, decide_eq_false_iff_not, Bool.not_eq_true', Bool.not_eq_false', Bool.not_eq_eq_eq_not, Bool.not_true, Bool.not_false, Int.not_lt, Int.not_le, beq_iff_eq, beq_eq_false_iff_ne, ne_eq] at g2)
     refine go_seq ?_
     refine go_region rfl ?_
     refine go_pure0 Tk rfl rfl rfl ?_
     refine go_pure0 Tk rfl rfl rfl ?_
     refine go_pure0 Tk rfl rfl rfl ?_
     refine go_nil ?_
     refine go_env [(2, _), (3, _)] ⟨rfl, rfl, trivial⟩ ?_
     refine go_ret ⟨rfl, rfl⟩ _ _ (res2 (by rfl) (.tmp rfl) (.tmp rfl)) ⟨by unfold rightC; rw [if_neg (by omega), hz, right_bad (by omega) (by rw [show badC ((l.take k).foldl (fun L c => (clauseL L c).2) (fun _ => none)) l[k] = 10 by unfold badC; rw [if_neg (by rw [g1]; decide), if_pos g2]]; decide), show badC ((l.take k).foldl (fun L c => (clauseL L c).2) (fun _ => none)) l[k] = 10 by unfold badC; rw [if_neg (by rw [g1]; decide), if_pos g2]], rfl, rfl⟩ (by repeat constructor) (by repeat constructor)
    ·intro g2
     (try simp only [decide_eq_true_eq, decide_eq_false_iff_not, Bool.not_eq_true', Bool.not_eq_false', Bool.not_eq_eq_eq_not, Bool.not_true, Bool.not_false, Int.not_lt, Int.not_le, beq_iff_eq, beq_eq_false_iff_ne, ne_eq] at g2)
     refine go_skip ?_
     refine go_seq ?_
     refine go_sl (sl tCl (some ⟨b1, o1, none⟩) c l) (sl tCl (some ⟨b1, o1, none⟩) c (l.take (k + 1))) (by repeat constructor) (fun _ hs => Sl.pre hs (k + 1)) ?_
     have htl : (l.take (k + 1)).length = k + 1 := by rw [List.length_take]; omega
     refine go_region rfl ?_
     refine go_pure0 Tk rfl rfl rfl ?_
     refine go_pure0 Tk rfl rfl rfl ?_
     refine go_pure0 Tk rfl rfl rfl ?_
     refine go_i64 30 rfl (by omega) (by omega) ?_
     refine go_re 30 (.int .i64 ((k + 1 : Nat) : Int)) (by rfl) ?_
     refine go_val0 rfl (slice_val' Tk rfl rfl rfl rfl 0 (k + 1) c (.slice (some ⟨b1, o1, none⟩) (l.take (k + 1)).length c) (by first | rfl | exact ⟨_, rfl⟩ | exact ⟨rfl, rfl⟩) (by first | rfl | exact ⟨_, rfl⟩ | exact ⟨rfl, rfl⟩) (by first | rfl | exact ⟨_, rfl⟩ | exact ⟨rfl, rfl⟩) (by omega) (by omega) (by omega) (by rw [sub0, htl]; rfl)) rfl ?_
     refine go_call (ref11lengths (some ⟨b1, o1, none⟩) c (l.take (k + 1)) (by omega) (fun x hx => hb x (List.mem_of_mem_take hx))) rfl rfl (by rfl) rfl (by repeat constructor) (by repeat constructor) (fun h => nomatch h) ?_
     rintro _ _ _ ⟨r, rfl, hr, rfl, rfl⟩
     refine go_pure0 Tk rfl rfl rfl ?_
     refine go_nil ?_
     refine go_env [(0, _), (4, _), (33, _)] ⟨rfl, rfl, rfl, trivial⟩ ?_
     refine go_cond rfl ?_ ?_
     ·intro g3
      (try simp only [decide_eq_true_eq, decide_eq_false_iff_not, Bool.not_eq_true', Bool.not_eq_false', Bool.not_eq_eq_eq_not, Bool.not_true, Bool.not_false, Int.not_lt, Int.not_le, beq_iff_eq, beq_eq_false_iff_ne, ne_eq] at g3)
      have g4 : (clauseL ((l.take k).foldl (fun L c => (clauseL L c).2) (fun _ => none)) l[k]).1 = false := Bool.eq_false_iff.2 (fun e => absurd (g3.symm.trans (hr.2 (by rw [atomsL_next (by omega)]; exact (lens_all hL hs l[k]).1 e))) (by decide))
      refine go_seq ?_
      refine go_region rfl ?_
      refine go_pure0 Tk rfl rfl rfl ?_
      refine go_pure0 Tk rfl rfl rfl ?_
      refine go_pure0 Tk rfl rfl rfl ?_
      refine go_nil ?_
      refine go_env [(2, _), (3, _)] ⟨rfl, rfl, trivial⟩ ?_
      refine go_ret ⟨rfl, rfl⟩ _ _ (res2 (by rfl) (.tmp rfl) (.tmp rfl)) ⟨by unfold rightC; rw [if_neg (by omega), hz, right_bad (by omega) (by rw [show badC ((l.take k).foldl (fun L c => (clauseL L c).2) (fun _ => none)) l[k] = 9 by unfold badC; rw [if_neg (by rw [g1]; decide), if_neg (by rw [g2]; decide), if_pos g4]]; decide), show badC ((l.take k).foldl (fun L c => (clauseL L c).2) (fun _ => none)) l[k] = 9 by unfold badC; rw [if_neg (by rw [g1]; decide), if_neg (by rw [g2]; decide), if_pos g4]], rfl, rfl⟩ (by repeat constructor) (by repeat constructor)
     ·intro g3
      (try simp only [decide_eq_true_eq, decide_eq_false_iff_not, Bool.not_eq_true', Bool.not_eq_false', Bool.not_eq_eq_eq_not, Bool.not_true, Bool.not_false, Int.not_lt, Int.not_le, beq_iff_eq, beq_eq_false_iff_ne, ne_eq] at g3)
      have g4 : (clauseL ((l.take k).foldl (fun L c => (clauseL L c).2) (fun _ => none)) l[k]).1 = true := (lens_all hL hs l[k]).2 (by rw [← atomsL_next (by omega)]; exact hr.1 g3)
      refine go_skip ?_
      refine go_blk ?_
      refine go_region rfl ?_
      refine go_pure0 Tk rfl rfl rfl ?_
      refine go_pure0 Tk rfl rfl rfl ?_
      refine go_pure0 Tk rfl rfl rfl ?_
      refine go_nil ?_
      refine go_i64 4 rfl (by omega) (by omega) ?_
      refine go_back (k + 1) ⟨rfl, rfl, trivial⟩ (by repeat constructor) (by repeat constructor) ⟨by omega, by rw [atomsL_next (by omega)]; exact (lens_all hL hs l[k]).1 g4, by rw [fold_next (by omega), atomsL_next (by omega)]; exact hL.clause l[k], by rw [fold_next (by omega)]; exact hz.trans (right_ok (by omega) (by unfold badC; rw [if_neg (by rw [g1]; decide), if_neg (by rw [g2]; decide), if_neg (by rw [g4]; decide)]))⟩ (by omega)
  ·intro hq1
   refine go_exit rfl ?_
   refine go_seq ?_
   refine go_region rfl ?_
   refine go_pure0 Tk rfl rfl rfl ?_
   refine go_pure0 Tk rfl rfl rfl ?_
   refine go_nil ?_
   refine go_env [(2, _), (3, _)] ⟨rfl, rfl, trivial⟩ ?_
   refine go_ret ⟨rfl, rfl⟩ _ _ (res2 (by rfl) (.tmp rfl) (.tmp rfl)) ⟨by unfold rightC; rw [if_neg (by omega), hz, List.drop_eq_nil_of_le (by omega)]; rfl, rfl, rfl⟩ (by repeat constructor) (by repeat constructor)

end Go.Proofs.YtkhddfknpegpmaaGreat.SL

/- Contracts of functions of the program (Reffa): what each call comes to, for the laws' proofs. -/
set_option linter.unusedVariables false
set_option linter.unusedSimpArgs false
namespace Go.Proofs.YtkhddfknpegpmaaGreat.SL
open Go 

set_option maxHeartbeats 2000000 in
set_option maxRecDepth 20000 in
theorem ref13right (c : Cl) (CA : Option Addr) (cc : Nat) (CB : Option Addr) (cd : Nat) (hb : c.b.length ≤ 1000) :
    Spec Tryz.prog 34 #[.agg #[.int .u32 c.h.p, .slice CA c.h.a.length cc, .slice CB c.b.length cd]] [sl tTm CA cc c.h.a, sl tLi CB cd c.b] [] (fun v Ps' Os' => v = .bool (decide ((rightC [c]).2 = 0)) ∧ Ps' = [] ∧ Os' = []) := by
 refine spec_of (fn := Tryz.f34) (args := [.agg #[.int .u32 c.h.p, .slice CA c.h.a.length cc, .slice CB c.b.length cd]]) 13 Tryz.func34 rfl (by kernel_rfl) Tryz.ntmps34 (Nat.le_of_ble_eq_true rfl) (fun w0 hp0 hf0 => ?_)
 refine go_seq ?_
 refine go_region rfl ?_
 refine go_box Tk rfl rfl rfl rfl (by rfl) rfl rfl (fun h => nomatch h) ?_
 intro bC
 refine go_pure0 Tk rfl rfl rfl ?_
 refine go_nil ?_
 refine go_freeze_pt (b := bC) (by repeat constructor) ?_
 refine go_env [(1, _)] ⟨rfl, trivial⟩ ?_
 refine go_seq ?_
 refine go_region rfl ?_
 refine go_val0 rfl (ldv Tk rfl rfl rfl) rfl ?_
 refine go_bslice Tk rfl rfl rfl rfl rfl rfl rfl rfl (fun h => nomatch h) ?_
 intro bs
 refine go_lit tCl (b := bs) [c] (by repeat constructor) (fun hp a => ⟨[.int .u32 c.h.p, .slice CA c.h.a.length cc, .slice CB c.b.length cd], [], rfl, tCl_mk (a (sl tTm CA cc c.h.a) (by repeat constructor)) (a (sl tLi CB cd c.b) (by repeat constructor)), rfl⟩) (by simp) ?_
 refine go_call (ref11Right (some ⟨bs, 0, none⟩) 1 [c] (fun x hx => by rw [List.mem_singleton] at hx; subst hx; exact hb)) rfl rfl (by rfl) rfl (by repeat constructor) (by repeat constructor) (fun h => nomatch h) ?_
 rintro _ _ _ ⟨rfl, rfl, rfl⟩
 refine go_pure0 Tk rfl rfl rfl ?_
 refine go_pure0 Tk rfl rfl rfl ?_
 refine go_pure0 Tk rfl rfl rfl ?_
 refine go_pure0 Tk rfl rfl rfl ?_
 refine go_pure0 Tk rfl rfl rfl ?_
 refine go_nil ?_
 refine go_env [(4, _)] ⟨rfl, trivial⟩ ?_
 refine go_seq ?_
 refine go_region rfl ?_
 refine go_pure0 Tk rfl rfl rfl ?_
 refine go_pure0 Tk rfl rfl rfl ?_
 refine go_pure0 Tk rfl rfl rfl ?_
 refine go_nil ?_
 refine go_env [(2, _)] ⟨rfl, trivial⟩ ?_
 refine go_ret ⟨rfl, rfl⟩ _ _ (res1 (by rfl) (.tmp rfl)) ⟨rfl, rfl, rfl⟩ (by repeat constructor) (by repeat constructor)

set_option maxHeartbeats 2000000 in
set_option maxRecDepth 20000 in
theorem ref13Fact (few : List Int) (is : List Bool) (hf : few.length = 16) (hi : is.length = 16) (a : Am) (AA : Option Addr) (ac : Nat) (hn : a.a.length ≤ 1000000) (hv : ∀ t ∈ a.a, t.v = true → 0 ≤ t.n ∧ t.n < 16) :
    Spec Tryz.prog 57 #[.agg (hc (few) (is) []).toArray, .agg #[.int .u32 a.p, .slice AA a.a.length ac]] [sl tTm AA ac a.a] [] (fun v Ps' Os' => ∃ A k, v = .agg #[.int .u32 (refF few a).p, .slice A (refF few a).a.length k] ∧ Ps' = [sl tU A k (refF few a).a] ∧ Os' = []) := by
 refine spec_of (fn := Tryz.f57) (args := [.agg (hc (few) (is) []).toArray, .agg #[.int .u32 a.p, .slice AA a.a.length ac]]) 41 Tryz.func57 rfl (by kernel_rfl) Tryz.ntmps57 (Nat.le_of_ble_eq_true rfl) (fun w0 hp0 hf0 => ?_)
 refine go_seq ?_
 refine go_region rfl ?_
 refine go_box (cs := hc few is []) Tk rfl rfl rfl rfl (takeL_len (hc_len hf hi)) (beq_of (hc_len hf hi)) rfl (fun h => nomatch h) ?_
 intro bH
 refine go_box Tk rfl rfl rfl rfl (by rfl) rfl rfl (fun h => nomatch h) ?_
 intro bA
 refine go_alloc Tk rfl rfl rfl (by rfl) rfl rfl (fun h => nomatch h) ?_
 intro bR
 refine go_nil ?_
 refine go_freeze_pt (b := bH) (by repeat constructor) ?_
 refine go_freeze_pt (b := bA) (by repeat constructor) ?_
 refine go_env [(2, _), (3, _), (4, _)] ⟨rfl, rfl, rfl, trivial⟩ ?_
 refine go_seq ?_
 refine go_region rfl ?_
 refine go_pure0 Tk rfl rfl rfl ?_
 refine go_val0 rfl (ldv Tk rfl rfl rfl) rfl ?_
 refine go_val0 rfl (fun a w hp ho hf hs => build_val Tk rfl rfl rfl (by rfl) a w hf) rfl ?_
 refine go_alloc Tk rfl rfl rfl (by rfl) rfl rfl (fun h => nomatch h) ?_
 intro bO
 refine go_store Tk rfl rfl rfl rfl rfl rfl (by repeat constructor) rfl rfl (by rfl) (fun h => nomatch h) ?_
 refine go_nil ?_
 refine go_env [(2, _), (3, _), (4, _), (5, _)] ⟨rfl, rfl, rfl, rfl, trivial⟩ ?_
 refine go_seq ?_
 refine go_seq ?_
 refine go_len (xs := a.a) (by repeat constructor) (fun l0 m0 => ?_)
 refine go_own_nil tU 22 none ?_
 refine go_same (A := ol tU 22 none 0 []) (B := ol tU 22 none 0 ((a.a.take 0).map (refT few))) (by repeat constructor) rfl ?_
 refine go_region rfl ?_
 refine go_pure0 Tk rfl rfl rfl ?_
 refine go_nil ?_
 refine go_env [(2, _), (3, _), (4, _), (5, _), (6, _)] ⟨rfl, rfl, rfl, rfl, rfl, trivial⟩ ?_
 refine go_block ?_
 refine go_loop' (X := Nat × Option Addr × Nat) (fun x => [(6, .int .i64 (x.1 : Int))]) [(2, _), (3, _), (4, _), (5, _)] (fun x => [pt bO 52 [.int .u32 a.p, .slice x.2.1 ((a.a.take x.1).map (refT few)).length x.2.2], ol tU 22 x.2.1 x.2.2 ((a.a.take x.1).map (refT few))]) (fun x => x.1 ≤ a.a.length) (fun x => a.a.length - x.1) ((0, none, 0)) ⟨rfl, rfl, rfl, rfl, rfl, trivial⟩ (by repeat constructor) (by omega) ?_
 intro ⟨k, A1, c1⟩ hk
 simp only at hk ⊢
 have hkl : ((a.a.take k).map (refT few)).length = k := by simp; omega
 refine go_seq ?_
 refine go_seq ?_
 refine go_region rfl ?_
 refine go_pure0 Tk rfl rfl rfl ?_
 refine go_pure0 Tk rfl rfl rfl ?_
 refine go_val0 rfl (ldv Tk rfl rfl rfl) rfl ?_
 refine go_pure0 Tk rfl rfl rfl ?_
 refine go_pure0 Tk rfl rfl rfl ?_
 refine go_nil ?_
 refine go_env [(2, _), (3, _), (4, _), (5, _), (6, _), (15, _)] ⟨rfl, rfl, rfl, rfl, rfl, rfl, trivial⟩ ?_
 refine go_condD rfl ?_ ?_
 ·intro hq1
  refine go_skip ?_
  refine go_seq ?_
  refine go_block ?_
  refine go_seq ?_
  refine go_elem_tm (xs := a.a) (by repeat constructor) (k) (List.getElem?_eq_getElem (by omega)) (fun b1 o1 hA => ?_); cases hA
  refine go_region rfl ?_
  refine go_pure0 Tk rfl rfl rfl ?_
  refine go_val0 rfl (ldv Tk rfl rfl rfl) rfl ?_
  refine go_pure0 Tk rfl rfl rfl ?_
  refine go_val0 rfl (idx_val Tk rfl rfl rfl rfl rfl (by omega)) rfl ?_
  refine go_pure0 Tk rfl rfl rfl ?_
  refine go_val0 rfl (ldv Tk rfl rfl rfl) rfl ?_
  refine go_pure0 Tk rfl rfl rfl ?_
  refine go_nil ?_
  refine go_env [(2, _), (3, _), (4, _), (5, _), (6, _), (7, _)] ⟨rfl, rfl, rfl, rfl, rfl, rfl, trivial⟩ ?_
  refine go_seq ?_
  refine go_seq ?_
  refine go_region rfl ?_
  refine go_pure0 Tk rfl rfl rfl ?_
  refine go_val0 rfl (ldv Tk rfl rfl rfl) rfl ?_
  refine go_pure0 Tk rfl rfl rfl ?_
  refine go_val0 rfl (idx_val Tk rfl rfl rfl rfl rfl (by omega)) rfl ?_
  refine go_pure0 Tk rfl rfl rfl ?_
  refine go_val0 rfl (ldv Tk rfl rfl rfl) rfl ?_
  refine go_nil ?_
  refine go_env [(2, _), (3, _), (4, _), (5, _), (6, _), (7, _), (29, _)] ⟨rfl, rfl, rfl, rfl, rfl, rfl, rfl, trivial⟩ ?_
  refine go_cond rfl ?_ ?_
  ·intro g1
   (try simp only [decide_eq_true_eq, decide_eq_false_iff_not, Bool.not_eq_true', Bool.not_eq_false', Bool.not_eq_eq_eq_not, Bool.not_true, Bool.not_false, Int.not_lt, Int.not_le, beq_iff_eq, beq_eq_false_iff_ne, ne_eq] at g1)
   obtain ⟨j, hj, hj16⟩ : ∃ j : Nat, a.a[k].n = (j : Int) ∧ j < 16 := ⟨a.a[k].n.toNat, by have := hv _ (List.getElem_mem _) g1; omega, by have := hv _ (List.getElem_mem _) g1; omega⟩
   refine go_region rfl ?_
   refine go_pure0 Tk rfl rfl rfl ?_
   refine go_re 30 (.int .u32 (j : Int)) (by show some (Value.int _ _) = _; rw [hj]) ?_
   refine go_pure0 Tk rfl rfl rfl ?_
   refine go_val0 rfl (idxA_val Tk rfl rfl rfl rfl rfl (by omega)) rfl ?_
   refine go_val0 rfl (load_val (cs := [.int .u32 few[j]]) Tk rfl rfl rfl (at_cl1 (by repeat constructor) j (by show 0 + 0 + j * 1 = _; omega) (hc_few (by omega) rfl)) rfl) rfl ?_
   refine go_pure0 Tk rfl rfl rfl ?_
   refine go_re 7 (.int .u32 (refT few a.a[k])) (by show some (Value.int _ _) = _; rw [show refT few a.a[k] = few[j] from by unfold refT; rw [if_pos g1, hj, Int.toNat_natCast, List.getElem?_eq_getElem (by omega)]; rfl]) ?_
   refine go_nil ?_
   refine go_env [(2, _), (3, _), (4, _), (5, _), (6, _), (7, _)] ⟨rfl, rfl, rfl, rfl, rfl, rfl, trivial⟩ ?_
   refine go_re 7 (.int .u32 (refT few a.a[k])) (by show some (Value.int _ _) = _; first | rfl | rw [show refT few a.a[k] = a.a[k].n from by unfold refT; rw [if_neg (by rw [g1]; decide)]]) ?_
   refine go_region rfl ?_
   refine go_pure0 Tk rfl rfl rfl ?_
   refine go_val0 rfl (ldv Tk rfl rfl rfl) rfl ?_
   refine go_pure0 Tk rfl rfl rfl ?_
   refine go_bslice Tk rfl rfl rfl rfl rfl rfl rfl rfl (fun h => nomatch h) ?_
   intro b1
   refine go_append1 (T := tU) (xs := ((a.a.take k).map (refT few))) Tk (refT few a.a[k]) rfl rfl rfl rfl rfl rfl rfl rfl rfl (by repeat constructor) (by repeat constructor) rfl ent_int (by omega) (by first | exact (fun _ _ _ => satA) | exact (fun h => nomatch h) | exact (fun h => nomatch (Eq.symm h).trans (show _ = false by kernel_rfl))) ?_
   intro A3 c3
   refine go_pure0 Tk rfl rfl rfl ?_
   refine go_store Tk rfl rfl rfl rfl rfl rfl (by repeat constructor) rfl rfl (by rfl) (fun h => nomatch h) ?_
   refine go_nil ?_
   refine go_env [(2, _), (3, _), (4, _), (5, _), (6, _)] ⟨rfl, rfl, rfl, rfl, rfl, trivial⟩ ?_
   refine go_blk ?_
   refine go_region rfl ?_
   refine go_pure0 Tk rfl rfl rfl ?_
   refine go_pure0 Tk rfl rfl rfl ?_
   refine go_pure0 Tk rfl rfl rfl ?_
   refine go_nil ?_
   refine go_i64 6 rfl (by omega) (by omega) ?_
   rw [show ((a.a.take k).map (refT few)) ++ [_] = (a.a.take (k + 1)).map (refT few) from by rw [List.take_succ_eq_append_getElem (by omega), List.map_append, List.map_cons]; rfl]
   refine go_back (k + 1, A3, c3) ⟨rfl, rfl, rfl, rfl, rfl, trivial⟩ (by repeat constructor) (by repeat constructor) (by show k + 1 ≤ _; omega) (by show a.a.length - (k + 1) < a.a.length - k; omega)
  ·intro g1
   (try simp only [decide_eq_true_eq, decide_eq_false_iff_not, Bool.not_eq_true', Bool.not_eq_false', Bool.not_eq_eq_eq_not, Bool.not_true, Bool.not_false, Int.not_lt, Int.not_le, beq_iff_eq, beq_eq_false_iff_ne, ne_eq] at g1)
   refine go_skip ?_
   refine go_re 7 (.int .u32 (refT few a.a[k])) (by show some (Value.int _ _) = _; first | rfl | rw [show refT few a.a[k] = a.a[k].n from by unfold refT; rw [if_neg (by rw [g1]; decide)]]) ?_
   refine go_region rfl ?_
   refine go_pure0 Tk rfl rfl rfl ?_
   refine go_val0 rfl (ldv Tk rfl rfl rfl) rfl ?_
   refine go_pure0 Tk rfl rfl rfl ?_
   refine go_bslice Tk rfl rfl rfl rfl rfl rfl rfl rfl (fun h => nomatch h) ?_
   intro b2
   refine go_append1 (T := tU) (xs := ((a.a.take k).map (refT few))) Tk (refT few a.a[k]) rfl rfl rfl rfl rfl rfl rfl rfl rfl (by repeat constructor) (by repeat constructor) rfl ent_int (by omega) (by first | exact (fun _ _ _ => satA) | exact (fun h => nomatch h) | exact (fun h => nomatch (Eq.symm h).trans (show _ = false by kernel_rfl))) ?_
   intro A3 c3
   refine go_pure0 Tk rfl rfl rfl ?_
   refine go_store Tk rfl rfl rfl rfl rfl rfl (by repeat constructor) rfl rfl (by rfl) (fun h => nomatch h) ?_
   refine go_nil ?_
   refine go_env [(2, _), (3, _), (4, _), (5, _), (6, _)] ⟨rfl, rfl, rfl, rfl, rfl, trivial⟩ ?_
   refine go_blk ?_
   refine go_region rfl ?_
   refine go_pure0 Tk rfl rfl rfl ?_
   refine go_pure0 Tk rfl rfl rfl ?_
   refine go_pure0 Tk rfl rfl rfl ?_
   refine go_nil ?_
   refine go_i64 6 rfl (by omega) (by omega) ?_
   rw [show ((a.a.take k).map (refT few)) ++ [_] = (a.a.take (k + 1)).map (refT few) from by rw [List.take_succ_eq_append_getElem (by omega), List.map_append, List.map_cons]; rfl]
   refine go_back (k + 1, A3, c3) ⟨rfl, rfl, rfl, rfl, rfl, trivial⟩ (by repeat constructor) (by repeat constructor) (by show k + 1 ≤ _; omega) (by show a.a.length - (k + 1) < a.a.length - k; omega)
 ·intro hq1
  refine go_exit rfl ?_
  refine go_seq ?_
  have htk : a.a.take k = a.a := List.take_of_length_le (by omega)
  rw [htk]
  refine go_freeze_ol (xs := a.a.map (refT few)) (by repeat constructor) ?_
  refine go_region rfl ?_
  refine go_val0 rfl (ldv Tk rfl rfl rfl) rfl ?_
  refine go_store Tk rfl rfl rfl rfl rfl rfl (by repeat constructor) rfl rfl (by rfl) (fun h => nomatch h) ?_
  refine go_nil ?_
  refine go_env [(4, _)] ⟨rfl, trivial⟩ ?_
  refine go_ret ⟨rfl, rfl⟩ _ _ (res1 (by rfl) (.cell rfl (rdv Tk rfl))) ⟨A1, c1, rfl, rfl, rfl⟩ (by repeat constructor) (by repeat constructor)

set_option maxHeartbeats 2000000 in
set_option maxRecDepth 20000 in
theorem ref13meet (few : List Int) (is : List Bool) (hf : few.length = 16) (hi : is.length = 16) (a : Am) (AA : Option Addr) (ac : Nat) (f : Fa) (FA : Option Addr) (fc : Nat) (hv : vok a) :
    Spec Tryz.prog 58 #[.agg (hc (few) (is) []).toArray, .agg #[.int .u32 a.p, .slice AA a.a.length ac], .agg #[.int .u32 f.p, .slice FA f.a.length fc]] [sl tTm AA ac a.a, sl tU FA fc f.a] [] (fun v Ps' Os' => ∃ ch : Ch, v = .tuple #[.agg (hc ch.1 ch.2 []).toArray, .bool (mtch (putA few is a) f)] ∧ ch.ok ∧ (mtch (putA few is a) f = true → ch = meetL f.a (few, is) a.a 0) ∧ Ps' = [] ∧ Os' = []) := by
 refine spec_of (fn := Tryz.f58) (args := [.agg (hc (few) (is) []).toArray, .agg #[.int .u32 a.p, .slice AA a.a.length ac], .agg #[.int .u32 f.p, .slice FA f.a.length fc]]) 82 Tryz.func58 rfl (by kernel_rfl) Tryz.ntmps58 (Nat.le_of_ble_eq_true rfl) (fun w0 hp0 hf0 => ?_)
 refine go_seq ?_
 refine go_region rfl ?_
 refine go_box (cs := hc few is []) Tk rfl rfl rfl rfl (takeL_len (hc_len hf hi)) (beq_of (hc_len hf hi)) rfl (fun h => nomatch h) ?_
 intro bC
 refine go_box Tk rfl rfl rfl rfl (by rfl) rfl rfl (fun h => nomatch h) ?_
 intro bA
 refine go_box Tk rfl rfl rfl rfl (by rfl) rfl rfl (fun h => nomatch h) ?_
 intro bF
 refine go_alloc Tk rfl rfl rfl (by rfl) rfl rfl (fun h => nomatch h) ?_
 intro bR
 refine go_pure0 Tk rfl rfl rfl ?_
 refine go_nil ?_
 refine go_freeze_pt (b := bA) (by repeat constructor) ?_
 refine go_freeze_pt (b := bF) (by repeat constructor) ?_
 refine go_env [(3, _), (4, _), (5, _), (6, _)] ⟨rfl, rfl, rfl, rfl, trivial⟩ ?_
 refine go_seq ?_
 refine go_seq ?_
 refine go_len (xs := a.a) (by repeat constructor) (fun l0 m0 => ?_)
 refine go_len (xs := f.a) (by repeat constructor) (fun l1 m1 => ?_)
 refine go_region rfl ?_
 refine go_pure0 Tk rfl rfl rfl ?_
 refine go_val0 rfl (ldv Tk rfl rfl rfl) rfl ?_
 refine go_pure0 Tk rfl rfl rfl ?_
 refine go_val0 rfl (ldv Tk rfl rfl rfl) rfl ?_
 refine go_pure0 Tk rfl rfl rfl ?_
 refine go_pure0 Tk rfl rfl rfl ?_
 refine go_known 15 rfl ?_ ?_
 ·intro g1
  (try simp only [decide_eq_true_eq, decide_eq_false_iff_not, Bool.not_eq_true', Bool.not_eq_false', Bool.not_eq_eq_eq_not, Bool.not_true, Bool.not_false, Int.not_lt, Int.not_le, beq_iff_eq, beq_eq_false_iff_ne, ne_eq] at g1)
  have hmt : mtch (putA few is a) f = false := mtch_shape (c := (few, is)) (.inl g1)
  refine go_skip0 rfl rfl ?_
  refine go_skip0 rfl rfl ?_
  refine go_skip0 rfl rfl ?_
  refine go_skip0 rfl rfl ?_
  refine go_skip0 rfl rfl ?_
  refine go_skip0 rfl rfl ?_
  refine go_skip0 rfl rfl ?_
  refine go_pure0 Tk rfl rfl rfl ?_
  refine go_nil ?_
  refine go_env [(3, _), (4, _), (5, _), (6, _), (23, _)] ⟨rfl, rfl, rfl, rfl, rfl, trivial⟩ ?_
  refine go_cond_t rfl ?_
  refine go_seq ?_
  refine go_region rfl ?_
  refine go_val0 rfl (load_val (cs := hc few is []) Tk rfl rfl rfl (at_all (by repeat constructor) (hc_len hf hi)) rfl) rfl ?_
  refine go_store (cs' := hc few is []) Tk rfl rfl rfl rfl rfl rfl (by repeat constructor) (beq_of (hc_len hf hi)) (hc_one _ _) (putL_whole (by rw [show (cellsL (.agg (hc few is []).toArray)).length = 32 from hc_len hf hi]; rfl)) (fun h => nomatch h) ?_
  refine go_pure0 Tk rfl rfl rfl ?_
  refine go_nil ?_
  refine go_env [(6, _), (7, _)] ⟨rfl, rfl, trivial⟩ ?_
  refine go_ret ⟨rfl, rfl⟩ _ _ (res2 (by rfl) (.cell rfl (reads_at Tk rfl (at_all (by repeat constructor) (by first | exact hc_len hf hi | exact hc_len hf1 hi1)) (by rfl))) (.tmp rfl)) ((by first | exact ⟨(few, is), congrArg (fun b => Value.tuple #[.agg (hc few is []).toArray, .bool b]) hmt.symm, ⟨hf, hi⟩, fun q => absurd (hmt.symm.trans q) (by decide), rfl, rfl⟩ | exact ⟨(f1, i1), congrArg (fun b => Value.tuple #[.agg (hc f1 i1 []).toArray, .bool b]) hmt.symm, ⟨hf1, hi1⟩, fun q => absurd (hmt.symm.trans q) (by decide), rfl, rfl⟩ | exact ⟨(f1, i1), congrArg (fun b => Value.tuple #[.agg (hc f1 i1 []).toArray, .bool b]) (soFar.end_ (c0 := (few, is)) (c := (f1, i1)) hv (by rw [show a.a.length = k from by omega]; exact hsf) (by omega) hln).symm, ⟨hf1, hi1⟩, fun _ => by rw [hz, List.drop_eq_nil_of_le (by omega)]; rfl, rfl, rfl⟩)) (by repeat constructor) (by repeat constructor)
 ·intro g1
  (try simp only [decide_eq_true_eq, decide_eq_false_iff_not, Bool.not_eq_true', Bool.not_eq_false', Bool.not_eq_eq_eq_not, Bool.not_true, Bool.not_false, Int.not_lt, Int.not_le, beq_iff_eq, beq_eq_false_iff_ne, ne_eq] at g1)
  refine go_pure0 Tk rfl rfl rfl ?_
  refine go_val0 rfl (ldv Tk rfl rfl rfl) rfl ?_
  refine go_pure0 Tk rfl rfl rfl ?_
  refine go_pure0 Tk rfl rfl rfl ?_
  refine go_val0 rfl (ldv Tk rfl rfl rfl) rfl ?_
  refine go_pure0 Tk rfl rfl rfl ?_
  refine go_pure0 Tk rfl rfl rfl ?_
  refine go_pure0 Tk rfl rfl rfl ?_
  refine go_nil ?_
  refine go_env [(3, _), (4, _), (5, _), (6, _), (23, _)] ⟨rfl, rfl, rfl, rfl, rfl, trivial⟩ ?_
  refine go_cond rfl ?_ ?_
  ·intro g2
   (try simp only [decide_eq_true_eq, decide_eq_false_iff_not, Bool.not_eq_true', Bool.not_eq_false', Bool.not_eq_eq_eq_not, Bool.not_true, Bool.not_false, Int.not_lt, Int.not_le, beq_iff_eq, beq_eq_false_iff_ne, ne_eq] at g2)
   have hmt : mtch (putA few is a) f = false := mtch_shape (c := (few, is)) (by first | exact .inl g1 | exact .inr (by omega))
   refine go_seq ?_
   refine go_region rfl ?_
   refine go_val0 rfl (load_val (cs := hc few is []) Tk rfl rfl rfl (at_all (by repeat constructor) (hc_len hf hi)) rfl) rfl ?_
   refine go_store (cs' := hc few is []) Tk rfl rfl rfl rfl rfl rfl (by repeat constructor) (beq_of (hc_len hf hi)) (hc_one _ _) (putL_whole (by rw [show (cellsL (.agg (hc few is []).toArray)).length = 32 from hc_len hf hi]; rfl)) (fun h => nomatch h) ?_
   refine go_pure0 Tk rfl rfl rfl ?_
   refine go_nil ?_
   refine go_env [(6, _), (7, _)] ⟨rfl, rfl, trivial⟩ ?_
   refine go_ret ⟨rfl, rfl⟩ _ _ (res2 (by rfl) (.cell rfl (reads_at Tk rfl (at_all (by repeat constructor) (by first | exact hc_len hf hi | exact hc_len hf1 hi1)) (by rfl))) (.tmp rfl)) ((by first | exact ⟨(few, is), congrArg (fun b => Value.tuple #[.agg (hc few is []).toArray, .bool b]) hmt.symm, ⟨hf, hi⟩, fun q => absurd (hmt.symm.trans q) (by decide), rfl, rfl⟩ | exact ⟨(f1, i1), congrArg (fun b => Value.tuple #[.agg (hc f1 i1 []).toArray, .bool b]) hmt.symm, ⟨hf1, hi1⟩, fun q => absurd (hmt.symm.trans q) (by decide), rfl, rfl⟩ | exact ⟨(f1, i1), congrArg (fun b => Value.tuple #[.agg (hc f1 i1 []).toArray, .bool b]) (soFar.end_ (c0 := (few, is)) (c := (f1, i1)) hv (by rw [show a.a.length = k from by omega]; exact hsf) (by omega) hln).symm, ⟨hf1, hi1⟩, fun _ => by rw [hz, List.drop_eq_nil_of_le (by omega)]; rfl, rfl, rfl⟩)) (by repeat constructor) (by repeat constructor)
  ·intro g2
   (try simp only [decide_eq_true_eq, decide_eq_false_iff_not, Bool.not_eq_true', Bool.not_eq_false', Bool.not_eq_eq_eq_not, Bool.not_true, Bool.not_false, Int.not_lt, Int.not_le, beq_iff_eq, beq_eq_false_iff_ne, ne_eq] at g2)
   have hln : a.a.length = f.a.length := by omega
   refine go_skip ?_
   refine go_seq ?_
   refine go_seq ?_
   refine go_region rfl ?_
   refine go_pure0 Tk rfl rfl rfl ?_
   refine go_nil ?_
   refine go_env [(3, _), (4, _), (5, _), (6, _), (8, _)] ⟨rfl, rfl, rfl, rfl, rfl, trivial⟩ ?_
   refine go_block ?_
   refine go_loop' (X := Nat × List Int × List Bool) (fun z => [(8, .int .i64 (z.1 : Int))]) [(3, _), (4, _), (5, _), (6, _)] (fun z => [pt bC 76 (hc z.2.1 z.2.2 [])]) (fun z => z.1 ≤ a.a.length ∧ z.2.1.length = 16 ∧ z.2.2.length = 16 ∧ meetL f.a (few, is) a.a 0 = meetL f.a z.2 (a.a.drop z.1) z.1 ∧ soFar (few, is) z.2 a f z.1) (fun z => a.a.length - z.1) ((0, few, is)) ⟨rfl, rfl, rfl, rfl, rfl, trivial⟩ (by repeat constructor) ⟨by omega, hf, hi, rfl, soFar.zero _ _ _⟩ ?_
   intro ⟨k, f1, i1⟩ ⟨hk, hf1, hi1, hz, hsf⟩
   simp only at hk hf1 hi1 hz hsf ⊢
   refine go_seq ?_
   refine go_seq ?_
   refine go_region rfl ?_
   refine go_pure0 Tk rfl rfl rfl ?_
   refine go_pure0 Tk rfl rfl rfl ?_
   refine go_val0 rfl (ldv Tk rfl rfl rfl) rfl ?_
   refine go_pure0 Tk rfl rfl rfl ?_
   refine go_pure0 Tk rfl rfl rfl ?_
   refine go_nil ?_
   refine go_env [(3, _), (4, _), (5, _), (6, _), (8, _), (29, _)] ⟨rfl, rfl, rfl, rfl, rfl, rfl, trivial⟩ ?_
   refine go_condD rfl ?_ ?_
   ·intro hq1
    refine go_skip ?_
    refine go_seq ?_
    refine go_block ?_
    refine go_seq ?_
    refine go_elem_tm (xs := a.a) (by repeat constructor) (k) (List.getElem?_eq_getElem (by omega)) (fun b1 o1 hA => ?_); cases hA
    refine go_elem_int (xs := f.a) (by repeat constructor) (k) (List.getElem?_eq_getElem (by omega)) (fun b2 o2 hA => ?_); cases hA
    refine go_region rfl ?_
    refine go_pure0 Tk rfl rfl rfl ?_
    refine go_val0 rfl (ldv Tk rfl rfl rfl) rfl ?_
    refine go_pure0 Tk rfl rfl rfl ?_
    refine go_val0 rfl (idx_val Tk rfl rfl rfl rfl rfl (by omega)) rfl ?_
    refine go_val0 rfl (ldv Tk rfl rfl rfl) rfl ?_
    refine go_alloc Tk rfl rfl rfl (by rfl) rfl rfl (fun h => nomatch h) ?_
    intro bT
    refine go_store Tk rfl rfl rfl rfl rfl rfl (by repeat constructor) rfl rfl (by rfl) (fun h => nomatch h) ?_
    refine go_nil ?_
    refine go_freeze_pt (b := bT) (by repeat constructor) ?_
    refine go_env [(3, _), (4, _), (5, _), (6, _), (8, _), (9, _)] ⟨rfl, rfl, rfl, rfl, rfl, rfl, trivial⟩ ?_
    refine go_seq ?_
    refine go_seq ?_
    refine go_region rfl ?_
    refine go_pure0 Tk rfl rfl rfl ?_
    refine go_val0 rfl (ldv Tk rfl rfl rfl) rfl ?_
    refine go_pure0 Tk rfl rfl rfl ?_
    refine go_nil ?_
    refine go_env [(3, _), (4, _), (5, _), (6, _), (8, _), (9, _), (39, _)] ⟨rfl, rfl, rfl, rfl, rfl, rfl, rfl, trivial⟩ ?_
    refine go_cond rfl ?_ ?_
    ·intro g3
     (try simp only [decide_eq_true_eq, decide_eq_false_iff_not, Bool.not_eq_true', Bool.not_eq_false', Bool.not_eq_eq_eq_not, Bool.not_true, Bool.not_false, Int.not_lt, Int.not_le, beq_iff_eq, beq_eq_false_iff_ne, ne_eq] at g3)
     refine go_seq ?_
     refine go_seq ?_
     refine go_draw ([cl bT 0 [.bool a.a[k].v, .int .u32 a.a[k].n], cl bF 0 [.int .u32 f.p, .slice (some ⟨b2, o2, none⟩) f.a.length fc], cl b2 (o2 + k * 1) [.int .u32 f.a[k]]]) ([]) [1, 3, 6] (SL.pre [(1, 0), (1, 2), (1, 4), (2, 1), (2, 3), (1, 5), (2, 6), (1, 7)] .nil) mixed rfl (by kernel_rfl) ?_
     refine go_pure1 Tk rfl rfl rfl ?_
     refine go_pure1 Tk rfl rfl rfl ?_
     refine go_pure1 Tk rfl rfl rfl ?_
     refine go_val2a rfl (ldv Tk rfl rfl rfl) rfl ?_
     refine go_val2a rfl (ldv Tk rfl rfl rfl) rfl ?_
     refine go_val1 rfl (idx_val Tk rfl rfl rfl rfl rfl (by omega)) rfl ?_
     refine go_val2a rfl (ldv Tk rfl rfl rfl) rfl ?_
     refine go_pure1 Tk rfl rfl rfl ?_
     refine go_nil ?_
     refine go_env [(3, _), (4, _), (5, _), (6, _), (8, _), (47, _)] ⟨rfl, rfl, rfl, rfl, rfl, rfl, trivial⟩ ?_
     refine go_condN rfl ?_ ?_
     ·intro g4
      have hmt : mtch (putA few is a) f = false := soFar.no1 (c0 := (few, is)) (c := (few, is)) hv (by omega) (by omega) g3 g4
      refine go_seq ?_
      refine go_region rfl ?_
      refine go_val0 rfl (load_val (cs := hc f1 i1 []) Tk rfl rfl rfl (at_all (by repeat constructor) (hc_len hf1 hi1)) rfl) rfl ?_
      refine go_store (cs' := hc f1 i1 []) Tk rfl rfl rfl rfl rfl rfl (by repeat constructor) (beq_of (hc_len hf1 hi1)) (hc_one _ _) (putL_whole (by rw [show (cellsL (.agg (hc f1 i1 []).toArray)).length = 32 from hc_len hf1 hi1]; rfl)) (fun h => nomatch h) ?_
      refine go_pure0 Tk rfl rfl rfl ?_
      refine go_nil ?_
      refine go_env [(6, _), (7, _)] ⟨rfl, rfl, trivial⟩ ?_
      refine go_ret ⟨rfl, rfl⟩ _ _ (res2 (by rfl) (.cell rfl (reads_at Tk rfl (at_all (by repeat constructor) (by first | exact hc_len hf hi | exact hc_len hf1 hi1)) (by rfl))) (.tmp rfl)) ((by first | exact ⟨(few, is), congrArg (fun b => Value.tuple #[.agg (hc few is []).toArray, .bool b]) hmt.symm, ⟨hf, hi⟩, fun q => absurd (hmt.symm.trans q) (by decide), rfl, rfl⟩ | exact ⟨(f1, i1), congrArg (fun b => Value.tuple #[.agg (hc f1 i1 []).toArray, .bool b]) hmt.symm, ⟨hf1, hi1⟩, fun q => absurd (hmt.symm.trans q) (by decide), rfl, rfl⟩ | exact ⟨(f1, i1), congrArg (fun b => Value.tuple #[.agg (hc f1 i1 []).toArray, .bool b]) (soFar.end_ (c0 := (few, is)) (c := (f1, i1)) hv (by rw [show a.a.length = k from by omega]; exact hsf) (by omega) hln).symm, ⟨hf1, hi1⟩, fun _ => by rw [hz, List.drop_eq_nil_of_le (by omega)]; rfl, rfl, rfl⟩)) (by repeat constructor) (by repeat constructor)
     ·intro g4
      refine go_skip ?_
      refine go_exit rfl ?_
      refine go_region rfl ?_
      refine go_pure0 Tk rfl rfl rfl ?_
      refine go_pure0 Tk rfl rfl rfl ?_
      refine go_pure0 Tk rfl rfl rfl ?_
      refine go_nil ?_
      refine go_i64 8 rfl (by omega) (by omega) ?_
      refine go_back (k + 1, f1, i1) ⟨rfl, rfl, rfl, rfl, rfl, trivial⟩ (by repeat constructor) (by repeat constructor) ⟨by show k + 1 ≤ _; omega, hf1, hi1, by rw [hz, List.drop_eq_getElem_cons (by omega), meetL, if_neg (by rw [g3]; decide)], hsf.same (by omega) (by omega) g3 g4⟩ (by show a.a.length - (k + 1) < a.a.length - k; omega)
    ·intro g3
     (try simp only [decide_eq_true_eq, decide_eq_false_iff_not, Bool.not_eq_true', Bool.not_eq_false', Bool.not_eq_eq_eq_not, Bool.not_true, Bool.not_false, Int.not_lt, Int.not_le, beq_iff_eq, beq_eq_false_iff_ne, ne_eq] at g3)
     obtain ⟨j, hj, hj16⟩ : ∃ j : Nat, a.a[k].n = (j : Int) ∧ j < 16 := ⟨a.a[k].n.toNat, by have := hv _ (List.getElem_mem _) g3; omega, by have := hv _ (List.getElem_mem _) g3; omega⟩
     refine go_skip ?_
     refine go_seq ?_
     refine go_seq ?_
     refine go_draw ([cl bT 0 [.bool a.a[k].v, .int .u32 a.a[k].n], cl bF 0 [.int .u32 f.p, .slice (some ⟨b2, o2, none⟩) f.a.length fc], cl b2 (o2 + k * 1) [.int .u32 f.a[k]]]) ([pt bC 76 (hc f1 i1 [])]) [1, 4, 7, 10, 12, 15] (SL.pre [(1, 0), (1, 2), (2, 1), (1, 3), (2, 4), (1, 5), (1, 6), (1, 8), (1, 11), (1, 13), (2, 7), (1, 9), (2, 10), (2, 12), (1, 14), (2, 15), (1, 16), (1, 17)] .nil) mixed rfl (by kernel_rfl) ?_
     refine go_pure1 Tk rfl rfl rfl ?_
     refine go_pure1 Tk rfl rfl rfl ?_
     refine go_val2a rfl (ldv Tk rfl rfl rfl) rfl ?_
     refine go_re 50 (.int .u32 (j : Int)) (by show some (Value.int _ _) = _; rw [hj]) ?_
     refine go_val1 rfl (idxA_val Tk rfl rfl rfl rfl rfl (by omega)) rfl ?_
     refine go_val2a rfl (load_val (cs := [.bool i1[j]]) Tk rfl rfl rfl (at_one (by repeat constructor) (hc_is (by omega) (by show 0 + 16 + j * 1 = _; omega))) rfl) rfl ?_
     refine go_pure1 Tk rfl rfl rfl ?_
     refine go_known 54 rfl ?_ ?_
     ·intro g5
      (try simp only [decide_eq_true_eq, decide_eq_false_iff_not, Bool.not_eq_true', Bool.not_eq_false', Bool.not_eq_eq_eq_not, Bool.not_true, Bool.not_false, Int.not_lt, Int.not_le, beq_iff_eq, beq_eq_false_iff_ne, ne_eq] at g5)
      refine go_pure1 Tk rfl rfl rfl ?_
      refine go_pure1 Tk rfl rfl rfl ?_
      refine go_pure1 Tk rfl rfl rfl ?_
      refine go_pure1 Tk rfl rfl rfl ?_
      refine go_val2a rfl (ldv Tk rfl rfl rfl) rfl ?_
      refine go_re 56 (.int .u32 (j : Int)) (by show some (Value.int _ _) = _; rw [hj]) ?_
      refine go_val1 rfl (idxA_val Tk rfl rfl rfl rfl rfl (by omega)) rfl ?_
      refine go_val2a rfl (load_val (cs := [.int .u32 f1[j]]) Tk rfl rfl rfl (at_one (by repeat constructor) (hc_few (by omega) (by show 0 + 0 + j * 1 = j; omega))) rfl) rfl ?_
      refine go_val2a rfl (ldv Tk rfl rfl rfl) rfl ?_
      refine go_val1 rfl (idx_val Tk rfl rfl rfl rfl rfl (by omega)) rfl ?_
      refine go_val2a rfl (ldv Tk rfl rfl rfl) rfl ?_
      refine go_pure1 Tk rfl rfl rfl ?_
      refine go_pure1 Tk rfl rfl rfl ?_
      refine go_nil ?_
      refine go_env [(3, _), (4, _), (5, _), (6, _), (8, _), (9, _), (55, _), (56, _), (57, _), (58, _), (59, _), (60, _), (61, _), (62, _), (63, _), (64, _), (65, _), (66, _)] ⟨rfl, rfl, rfl, rfl, rfl, rfl, rfl, rfl, rfl, rfl, rfl, rfl, rfl, rfl, rfl, rfl, rfl, rfl, trivial⟩ ?_
      refine go_cond rfl ?_ ?_
      ·intro g6
       (try simp only [decide_eq_true_eq, decide_eq_false_iff_not, Bool.not_eq_true', Bool.not_eq_false', Bool.not_eq_eq_eq_not, Bool.not_true, Bool.not_false, Int.not_lt, Int.not_le, beq_iff_eq, beq_eq_false_iff_ne, ne_eq] at g6)
       have hmt : mtch (putA few is a) f = false := soFar.no2 hv hsf (by omega) (by omega) g3 hj (show i1[j]? = some true by rw [List.getElem?_eq_getElem (by omega), g5]) (show f1[j]? = some f1[j] from List.getElem?_eq_getElem (by omega)) g6
       refine go_seq ?_
       refine go_region rfl ?_
       refine go_val0 rfl (load_val (cs := hc f1 i1 []) Tk rfl rfl rfl (at_all (by repeat constructor) (hc_len hf1 hi1)) rfl) rfl ?_
       refine go_store (cs' := hc f1 i1 []) Tk rfl rfl rfl rfl rfl rfl (by repeat constructor) (beq_of (hc_len hf1 hi1)) (hc_one _ _) (putL_whole (by rw [show (cellsL (.agg (hc f1 i1 []).toArray)).length = 32 from hc_len hf1 hi1]; rfl)) (fun h => nomatch h) ?_
       refine go_pure0 Tk rfl rfl rfl ?_
       refine go_nil ?_
       refine go_env [(6, _), (7, _)] ⟨rfl, rfl, trivial⟩ ?_
       refine go_ret ⟨rfl, rfl⟩ _ _ (res2 (by rfl) (.cell rfl (reads_at Tk rfl (at_all (by repeat constructor) (by first | exact hc_len hf hi | exact hc_len hf1 hi1)) (by rfl))) (.tmp rfl)) ((by first | exact ⟨(few, is), congrArg (fun b => Value.tuple #[.agg (hc few is []).toArray, .bool b]) hmt.symm, ⟨hf, hi⟩, fun q => absurd (hmt.symm.trans q) (by decide), rfl, rfl⟩ | exact ⟨(f1, i1), congrArg (fun b => Value.tuple #[.agg (hc f1 i1 []).toArray, .bool b]) hmt.symm, ⟨hf1, hi1⟩, fun q => absurd (hmt.symm.trans q) (by decide), rfl, rfl⟩ | exact ⟨(f1, i1), congrArg (fun b => Value.tuple #[.agg (hc f1 i1 []).toArray, .bool b]) (soFar.end_ (c0 := (few, is)) (c := (f1, i1)) hv (by rw [show a.a.length = k from by omega]; exact hsf) (by omega) hln).symm, ⟨hf1, hi1⟩, fun _ => by rw [hz, List.drop_eq_nil_of_le (by omega)]; rfl, rfl, rfl⟩)) (by repeat constructor) (by repeat constructor)
      ·intro g6
       (try simp only [decide_eq_true_eq, decide_eq_false_iff_not, Bool.not_eq_true', Bool.not_eq_false', Bool.not_eq_eq_eq_not, Bool.not_true, Bool.not_false, Int.not_lt, Int.not_le, beq_iff_eq, beq_eq_false_iff_ne, ne_eq] at g6)
       refine go_skip ?_
       refine go_seq ?_
       refine go_region rfl ?_
       refine go_pure0 Tk rfl rfl rfl ?_
       refine go_val0 rfl (ldv Tk rfl rfl rfl) rfl ?_
       refine go_re 69 (.int .u32 (j : Int)) (by show some (Value.int _ _) = _; rw [hj]) ?_
       refine go_pure0 Tk rfl rfl rfl ?_
       refine go_val0 rfl (idxA_val Tk rfl rfl rfl rfl rfl (by omega)) rfl ?_
       refine go_store Tk rfl rfl rfl rfl rfl rfl (by repeat constructor) rfl rfl (hc_put_is (j := j) (by omega) (by show 0 + 16 + j * 1 = _; omega)) (fun h => nomatch h) ?_
       refine go_nil ?_
       refine go_env [(3, _), (4, _), (5, _), (6, _), (8, _), (9, _), (55, _), (56, _), (57, _), (58, _), (59, _), (60, _), (61, _), (62, _), (63, _), (64, _), (65, _)] ⟨rfl, rfl, rfl, rfl, rfl, rfl, rfl, rfl, rfl, rfl, rfl, rfl, rfl, rfl, rfl, rfl, rfl, trivial⟩ ?_
       refine go_draw ([cl bT 0 [.bool a.a[k].v, .int .u32 a.a[k].n], cl bF 0 [.int .u32 f.p, .slice (some ⟨b2, o2, none⟩) f.a.length fc], cl b2 (o2 + k * 1) [.int .u32 f.a[k]]]) ([]) [1, 3, 6] (SL.pre [(1, 0), (1, 2), (1, 4), (1, 7), (2, 1), (2, 3), (1, 5), (2, 6), (1, 8), (0, 9)] .nil) mixed rfl (by kernel_rfl) ?_
       refine go_pure1 Tk rfl rfl rfl ?_
       refine go_pure1 Tk rfl rfl rfl ?_
       refine go_pure1 Tk rfl rfl rfl ?_
       refine go_pure1 Tk rfl rfl rfl ?_
       refine go_val2a rfl (ldv Tk rfl rfl rfl) rfl ?_
       refine go_re 73 (.int .u32 (j : Int)) (by show some (Value.int _ _) = _; rw [hj]) ?_
       refine go_val2a rfl (ldv Tk rfl rfl rfl) rfl ?_
       refine go_val1 rfl (idx_val Tk rfl rfl rfl rfl rfl (by omega)) rfl ?_
       refine go_val2a rfl (ldv Tk rfl rfl rfl) rfl ?_
       refine go_val1 rfl (idxA_val Tk rfl rfl rfl rfl rfl (by omega)) rfl ?_
       refine go_store Tk rfl rfl rfl rfl rfl rfl (by repeat constructor) rfl rfl (hc_put_few (j := j) (by omega) (by show 0 + 0 + j * 1 = j; omega)) (by first | exact (fun _ => satA) | exact (fun h => nomatch h) | exact (fun h => nomatch (Eq.symm h).trans (show _ = false by kernel_rfl))) ?_
       refine go_nil ?_
       refine go_env [(3, _), (4, _), (5, _), (6, _), (8, _), (55, _), (56, _), (57, _), (58, _), (59, _), (60, _), (61, _), (62, _), (63, _), (64, _), (65, _)] ⟨rfl, rfl, rfl, rfl, rfl, rfl, rfl, rfl, rfl, rfl, rfl, rfl, rfl, rfl, rfl, rfl, trivial⟩ ?_
       refine go_blk ?_
       refine go_region rfl ?_
       refine go_pure0 Tk rfl rfl rfl ?_
       refine go_pure0 Tk rfl rfl rfl ?_
       refine go_pure0 Tk rfl rfl rfl ?_
       refine go_nil ?_
       refine go_i64 8 rfl (by omega) (by omega) ?_
       refine go_back (k + 1, f1.set j f.a[k], i1.set j true) ⟨rfl, rfl, rfl, rfl, rfl, trivial⟩ (by repeat constructor) (by repeat constructor) ⟨by show k + 1 ≤ _; omega, by simpa using hf1, by simpa using hi1, by rw [hz, List.drop_eq_getElem_cons (by omega), meetL, if_pos g3, hj, Int.toNat_natCast, List.getElem?_eq_getElem (by omega)]; rfl, hsf.set ⟨hf1, hi1⟩ (by omega) (by omega) g3 hj hj16 (by first | exact .inr (show f1[j]? = _ by rw [List.getElem?_eq_getElem (by omega), g6]) | exact .inl (show i1[j]? = _ by rw [List.getElem?_eq_getElem (by omega), g5]))⟩ (by show a.a.length - (k + 1) < a.a.length - k; omega)
     ·intro g5
      (try simp only [decide_eq_true_eq, decide_eq_false_iff_not, Bool.not_eq_true', Bool.not_eq_false', Bool.not_eq_eq_eq_not, Bool.not_true, Bool.not_false, Int.not_lt, Int.not_le, beq_iff_eq, beq_eq_false_iff_ne, ne_eq] at g5)
      refine go_skip1 rfl rfl ?_
      refine go_skip1 rfl rfl ?_
      refine go_skip1 rfl rfl ?_
      refine go_skip1 rfl rfl ?_
      refine go_skip2 rfl (by repeat constructor) (by repeat constructor) rfl ?_
      refine go_skip1 rfl rfl ?_
      refine go_skip2 rfl (by repeat constructor) (by repeat constructor) rfl ?_
      refine go_skip2 rfl (by repeat constructor) (by repeat constructor) rfl ?_
      refine go_skip1 rfl rfl ?_
      refine go_skip2 rfl (by repeat constructor) (by repeat constructor) rfl ?_
      refine go_skip1 rfl rfl ?_
      refine go_pure1 Tk rfl rfl rfl ?_
      refine go_nil ?_
      refine go_env [(3, _), (4, _), (5, _), (6, _), (8, _), (9, _), (55, _), (56, _), (57, _), (58, _), (59, _), (60, _), (61, _), (62, _), (63, _), (64, _), (65, _), (66, _)] ⟨rfl, rfl, rfl, rfl, rfl, rfl, rfl, rfl, rfl, rfl, rfl, rfl, rfl, rfl, rfl, rfl, rfl, rfl, trivial⟩ ?_
      refine go_cond_f rfl ?_
      refine go_skip ?_
      refine go_seq ?_
      refine go_region rfl ?_
      refine go_pure0 Tk rfl rfl rfl ?_
      refine go_val0 rfl (ldv Tk rfl rfl rfl) rfl ?_
      refine go_re 69 (.int .u32 (j : Int)) (by show some (Value.int _ _) = _; rw [hj]) ?_
      refine go_pure0 Tk rfl rfl rfl ?_
      refine go_val0 rfl (idxA_val Tk rfl rfl rfl rfl rfl (by omega)) rfl ?_
      refine go_store Tk rfl rfl rfl rfl rfl rfl (by repeat constructor) rfl rfl (hc_put_is (j := j) (by omega) (by show 0 + 16 + j * 1 = _; omega)) (fun h => nomatch h) ?_
      refine go_nil ?_
      refine go_env [(3, _), (4, _), (5, _), (6, _), (8, _), (9, _), (55, _), (56, _), (57, _), (58, _), (59, _), (60, _), (61, _), (62, _), (63, _), (64, _), (65, _)] ⟨rfl, rfl, rfl, rfl, rfl, rfl, rfl, rfl, rfl, rfl, rfl, rfl, rfl, rfl, rfl, rfl, rfl, trivial⟩ ?_
      refine go_draw ([cl bT 0 [.bool a.a[k].v, .int .u32 a.a[k].n], cl bF 0 [.int .u32 f.p, .slice (some ⟨b2, o2, none⟩) f.a.length fc], cl b2 (o2 + k * 1) [.int .u32 f.a[k]]]) ([]) [1, 3, 6] (SL.pre [(1, 0), (1, 2), (1, 4), (1, 7), (2, 1), (2, 3), (1, 5), (2, 6), (1, 8), (0, 9)] .nil) mixed rfl (by kernel_rfl) ?_
      refine go_pure1 Tk rfl rfl rfl ?_
      refine go_pure1 Tk rfl rfl rfl ?_
      refine go_pure1 Tk rfl rfl rfl ?_
      refine go_pure1 Tk rfl rfl rfl ?_
      refine go_val2a rfl (ldv Tk rfl rfl rfl) rfl ?_
      refine go_re 73 (.int .u32 (j : Int)) (by show some (Value.int _ _) = _; rw [hj]) ?_
      refine go_val2a rfl (ldv Tk rfl rfl rfl) rfl ?_
      refine go_val1 rfl (idx_val Tk rfl rfl rfl rfl rfl (by omega)) rfl ?_
      refine go_val2a rfl (ldv Tk rfl rfl rfl) rfl ?_
      refine go_val1 rfl (idxA_val Tk rfl rfl rfl rfl rfl (by omega)) rfl ?_
      refine go_store Tk rfl rfl rfl rfl rfl rfl (by repeat constructor) rfl rfl (hc_put_few (j := j) (by omega) (by show 0 + 0 + j * 1 = j; omega)) (by first | exact (fun _ => satA) | exact (fun h => nomatch h) | exact (fun h => nomatch (Eq.symm h).trans (show _ = false by kernel_rfl))) ?_
      refine go_nil ?_
      refine go_env [(3, _), (4, _), (5, _), (6, _), (8, _), (55, _), (56, _), (57, _), (58, _), (59, _), (60, _), (61, _), (62, _), (63, _), (64, _), (65, _)] ⟨rfl, rfl, rfl, rfl, rfl, rfl, rfl, rfl, rfl, rfl, rfl, rfl, rfl, rfl, rfl, rfl, trivial⟩ ?_
      refine go_blk ?_
      refine go_region rfl ?_
      refine go_pure0 Tk rfl rfl rfl ?_
      refine go_pure0 Tk rfl rfl rfl ?_
      refine go_pure0 Tk rfl rfl rfl ?_
      refine go_nil ?_
      refine go_i64 8 rfl (by omega) (by omega) ?_
      refine go_back (k + 1, f1.set j f.a[k], i1.set j true) ⟨rfl, rfl, rfl, rfl, rfl, trivial⟩ (by repeat constructor) (by repeat constructor) ⟨by show k + 1 ≤ _; omega, by simpa using hf1, by simpa using hi1, by rw [hz, List.drop_eq_getElem_cons (by omega), meetL, if_pos g3, hj, Int.toNat_natCast, List.getElem?_eq_getElem (by omega)]; rfl, hsf.set ⟨hf1, hi1⟩ (by omega) (by omega) g3 hj hj16 (by first | exact .inr (show f1[j]? = _ by rw [List.getElem?_eq_getElem (by omega), g6]) | exact .inl (show i1[j]? = _ by rw [List.getElem?_eq_getElem (by omega), g5]))⟩ (by show a.a.length - (k + 1) < a.a.length - k; omega)
   ·intro hq1
    refine go_exit rfl ?_
    refine go_seq ?_
    refine go_region rfl ?_
    refine go_val0 rfl (load_val (cs := hc f1 i1 []) Tk rfl rfl rfl (at_all (by repeat constructor) (hc_len hf1 hi1)) rfl) rfl ?_
    refine go_store (cs' := hc f1 i1 []) Tk rfl rfl rfl rfl rfl rfl (by repeat constructor) (beq_of (hc_len hf1 hi1)) (hc_one _ _) (putL_whole (by rw [show (cellsL (.agg (hc f1 i1 []).toArray)).length = 32 from hc_len hf1 hi1]; rfl)) (fun h => nomatch h) ?_
    refine go_pure0 Tk rfl rfl rfl ?_
    refine go_nil ?_
    refine go_env [(6, _), (7, _)] ⟨rfl, rfl, trivial⟩ ?_
    refine go_ret ⟨rfl, rfl⟩ _ _ (res2 (by rfl) (.cell rfl (reads_at Tk rfl (at_all (by repeat constructor) (by first | exact hc_len hf hi | exact hc_len hf1 hi1)) (by rfl))) (.tmp rfl)) ((by first | exact ⟨(few, is), congrArg (fun b => Value.tuple #[.agg (hc few is []).toArray, .bool b]) hmt.symm, ⟨hf, hi⟩, fun q => absurd (hmt.symm.trans q) (by decide), rfl, rfl⟩ | exact ⟨(f1, i1), congrArg (fun b => Value.tuple #[.agg (hc f1 i1 []).toArray, .bool b]) hmt.symm, ⟨hf1, hi1⟩, fun q => absurd (hmt.symm.trans q) (by decide), rfl, rfl⟩ | exact ⟨(f1, i1), congrArg (fun b => Value.tuple #[.agg (hc f1 i1 []).toArray, .bool b]) (soFar.end_ (c0 := (few, is)) (c := (f1, i1)) hv (by rw [show a.a.length = k from by omega]; exact hsf) (by omega) hln).symm, ⟨hf1, hi1⟩, fun _ => by rw [hz, List.drop_eq_nil_of_le (by omega)]; rfl, rfl, rfl⟩)) (by repeat constructor) (by repeat constructor)

end Go.Proofs.YtkhddfknpegpmaaGreat.SL
