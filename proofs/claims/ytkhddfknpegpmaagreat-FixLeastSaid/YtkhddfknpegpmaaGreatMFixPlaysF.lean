/- Engine, data and contracts: parts of the proof of FixPlays, put together (Refcl Reffa Reffi Law13c Reffj Law14b Law14p S8 Open SE). -/
import Derived.Test.YtkhddfknpegpmaaGreatMFixPlaysD
import Derived.Test.YtkhddfknpegpmaaGreatMFixPlaysE
import Derived.Test.YtkhddfknpegpmaaGreatMFixPlaysA
import Derived.WalkKit
import Derived.ProofKit
import Derived.OpenShut
import Derived.ShutString
import Derived.ChangeOld
import Derived.Below
import Derived.Carry
import Derived.SizedLaws
import Derived.Deep.Slices
import Derived.Test.YtkhddfknpegpmaaGreatMFixPlaysB
import Derived.Test.YtkhddfknpegpmaaGreatMFixPlaysC
/- Contracts of functions of the program (Refcl): what each call comes to, for the laws' proofs. -/
set_option linter.unusedVariables false
set_option linter.unusedSimpArgs false
namespace Go.Proofs.YtkhddfknpegpmaaGreat.SL
open Go 

set_option maxHeartbeats 2000000 in
set_option maxRecDepth 20000 in
theorem ref05MayAtom (a : Am) (AA : Option Addr) (ac : Nat) :
    Spec Tryz.prog 91 #[.agg #[.int .u32 a.p, .slice AA a.a.length ac]] [sl tTm AA ac a.a] [] (fun v Ps' Os' => v = .bool (mayA a) ∧ Ps' = [] ∧ Os' = []) := by
 refine spec_of (fn := Tryz.f91) (args := [.agg #[.int .u32 a.p, .slice AA a.a.length ac]]) 30 Tryz.func91 rfl (by kernel_rfl) Tryz.ntmps91 (Nat.le_of_ble_eq_true rfl) (fun w0 hp0 hf0 => ?_)
 refine go_seq ?_
 refine go_region rfl ?_
 refine go_box Tk rfl rfl rfl rfl (by rfl) rfl rfl (fun h => nomatch h) ?_
 intro b0
 refine go_pure0 Tk rfl rfl rfl ?_
 refine go_nil ?_
 refine go_freeze_pt (b := b0) (by repeat constructor) ?_
 refine go_env [(1, _)] ⟨rfl, trivial⟩ ?_
 iterate 2 refine go_seq ?_
 refine go_len (xs := a.a) (by repeat constructor) (fun l0 m0 => ?_)
 refine go_region rfl ?_
 refine go_pure0 Tk rfl rfl rfl ?_
 refine go_nil ?_
 refine go_env [(1, _), (3, _)] ⟨rfl, rfl, trivial⟩ ?_
 refine go_block ?_
 refine go_loop' (X := Nat) (fun k => [(3, .int .i64 (k : Int))]) [(1, _)] (fun _ => []) (fun k => k ≤ a.a.length ∧ ∀ t ∈ a.a.take k, t.v = true → t.n < 16) (fun k => a.a.length - k) (0) ⟨rfl, rfl, trivial⟩ (by repeat constructor) ⟨by omega, by simp⟩ ?_
 intro k ⟨hk, hz⟩
 iterate 8 first | refine go_seq ?_ | refine go_region rfl ?_ | refine go_pure0 Tk rfl rfl rfl ?_ | refine go_val0 rfl (ldv Tk rfl rfl rfl) rfl ?_
 refine go_nil ?_
 refine go_env [(1, _), (3, _), (8, _)] ⟨rfl, rfl, rfl, trivial⟩ ?_
 refine go_condD rfl ?_ ?_
 ·intro hq1
  iterate 4 first | refine go_skip ?_ | refine go_seq ?_ | refine go_block ?_
  refine go_elem_tm (xs := a.a) (by repeat constructor) (k) (List.getElem?_eq_getElem (by omega)) (fun b1 o1 hA => ?_); cases hA
  iterate 4 first | refine go_region rfl ?_ | refine go_pure0 Tk rfl rfl rfl ?_ | refine go_val0 rfl (ldv Tk rfl rfl rfl) rfl ?_
  refine go_val0 rfl (idx_val Tk rfl rfl rfl rfl rfl (by omega)) rfl ?_
  iterate 3 first | refine go_pure0 Tk rfl rfl rfl ?_ | refine go_val0 rfl (ldv Tk rfl rfl rfl) rfl ?_
  refine go_known 17 rfl ?_ ?_
  ·intro g1
   (try simp only [decide_eq_true_eq, decide_eq_false_iff_not, Bool.not_eq_true', Bool.not_eq_false', Bool.not_eq_eq_eq_not, Bool.not_true, Bool.not_false, Int.not_lt, Int.not_le, beq_iff_eq, beq_eq_false_iff_ne, ne_eq] at g1)
   iterate 3 first | refine go_pure0 Tk rfl rfl rfl ?_ | refine go_val0 rfl (ldv Tk rfl rfl rfl) rfl ?_
   refine go_val0 rfl (idx_val Tk rfl rfl rfl rfl rfl (by omega)) rfl ?_
   iterate 4 first | refine go_pure0 Tk rfl rfl rfl ?_ | refine go_val0 rfl (ldv Tk rfl rfl rfl) rfl ?_
   refine go_nil ?_
   refine go_env [(1, _), (3, _), (18, _), (19, _), (20, _), (21, _), (22, _), (23, _), (24, _), (25, _)] ⟨rfl, rfl, rfl, rfl, rfl, rfl, rfl, rfl, rfl, rfl, trivial⟩ ?_
   refine go_cond rfl ?_ ?_
   ·intro g2
    (try simp only [decide_eq_true_eq, decide_eq_false_iff_not, Bool.not_eq_true', Bool.not_eq_false', Bool.not_eq_eq_eq_not, Bool.not_true, Bool.not_false, Int.not_lt, Int.not_le, beq_iff_eq, beq_eq_false_iff_ne, ne_eq] at g2)
    refine go_seq ?_
    refine go_region rfl ?_
    refine go_pure0 Tk rfl rfl rfl ?_
    refine go_nil ?_
    refine go_env [(2, _)] ⟨rfl, trivial⟩ ?_
    refine go_ret ⟨rfl, rfl⟩ _ _ (res1 (by rfl) (.tmp rfl)) ⟨by rw [show mayA a = false from Bool.eq_false_iff.2 (fun e => by have := (mayA_iff.1 e).2 a.a[k] (List.getElem_mem _) g1; omega)], rfl, rfl⟩ (by repeat constructor) (by repeat constructor)
   ·intro g2
    (try simp only [decide_eq_true_eq, decide_eq_false_iff_not, Bool.not_eq_true', Bool.not_eq_false', Bool.not_eq_eq_eq_not, Bool.not_true, Bool.not_false, Int.not_lt, Int.not_le, beq_iff_eq, beq_eq_false_iff_ne, ne_eq] at g2)
    refine go_skip ?_
    refine go_blk ?_
    iterate 4 first | refine go_region rfl ?_ | refine go_pure0 Tk rfl rfl rfl ?_
    refine go_nil ?_
    refine go_i64 3 rfl (by omega) (by omega) ?_
    refine go_back (k + 1) ⟨rfl, rfl, trivial⟩ (by repeat constructor) (by repeat constructor) (⟨by omega, mem_take_next (by omega) hz (fun q => by first | exact absurd (g1.symm.trans q) (by decide) | omega)⟩) (by omega)
  ·intro g1
   (try simp only [decide_eq_true_eq, decide_eq_false_iff_not, Bool.not_eq_true', Bool.not_eq_false', Bool.not_eq_eq_eq_not, Bool.not_true, Bool.not_false, Int.not_lt, Int.not_le, beq_iff_eq, beq_eq_false_iff_ne, ne_eq] at g1)
   iterate 8 first | refine go_skip0 rfl rfl ?_ | refine go_pure0 Tk rfl rfl rfl ?_
   refine go_nil ?_
   refine go_env [(1, _), (3, _), (18, _), (19, _), (20, _), (21, _), (22, _), (23, _), (24, _), (25, _)] ⟨rfl, rfl, rfl, rfl, rfl, rfl, rfl, rfl, rfl, rfl, trivial⟩ ?_
   refine go_cond_f rfl ?_
   refine go_skip ?_
   refine go_blk ?_
   iterate 4 first | refine go_region rfl ?_ | refine go_pure0 Tk rfl rfl rfl ?_
   refine go_nil ?_
   refine go_i64 3 rfl (by omega) (by omega) ?_
   refine go_back (k + 1) ⟨rfl, rfl, trivial⟩ (by repeat constructor) (by repeat constructor) (⟨by omega, mem_take_next (by omega) hz (fun q => by first | exact absurd (g1.symm.trans q) (by decide) | omega)⟩) (by omega)
 ·intro hq1
  iterate 8 first | refine go_exit rfl ?_ | refine go_seq ?_ | refine go_region rfl ?_ | refine go_pure0 Tk rfl rfl rfl ?_ | refine go_val0 rfl (ldv Tk rfl rfl rfl) rfl ?_
  refine go_nil ?_
  refine go_env [(2, _)] ⟨rfl, trivial⟩ ?_
  refine go_ret ⟨rfl, rfl⟩ _ _ (res1 (by rfl) (.tmp rfl)) ⟨congrArg Value.bool (Bool.eq_iff_iff.2 (by rw [decide_eq_true_eq, mayA_iff]; rw [List.take_of_length_le (by omega)] at hz; exact ⟨fun h => ⟨by omega, hz⟩, fun h => by omega⟩)), rfl, rfl⟩ (by repeat constructor) (by repeat constructor)

set_option maxHeartbeats 2000000 in
set_option maxRecDepth 20000 in
theorem ref05May (c : Cl) (CA : Option Addr) (cc : Nat) (CB : Option Addr) (cd : Nat) :
    Spec Tryz.prog 72 #[.agg #[.int .u32 c.h.p, .slice CA c.h.a.length cc, .slice CB c.b.length cd]] [sl tTm CA cc c.h.a, sl tLi CB cd c.b] [] (fun v Ps' Os' => v = .bool (mayC c) ∧ Ps' = [] ∧ Os' = []) := by
 refine spec_of (fn := Tryz.f72) (args := [.agg #[.int .u32 c.h.p, .slice CA c.h.a.length cc, .slice CB c.b.length cd]]) 28 Tryz.func72 rfl (by kernel_rfl) Tryz.ntmps72 (Nat.le_of_ble_eq_true rfl) (fun w0 hp0 hf0 => ?_)
 refine go_seq ?_
 refine go_region rfl ?_
 refine go_box Tk rfl rfl rfl rfl (by rfl) rfl rfl (fun h => nomatch h) ?_
 intro bC
 refine go_pure0 Tk rfl rfl rfl ?_
 refine go_nil ?_
 refine go_freeze_pt (b := bC) (by repeat constructor) ?_
 refine go_env [(1, _)] ⟨rfl, trivial⟩ ?_
 iterate 2 refine go_seq ?_
 refine go_len (xs := c.b) (by repeat constructor) (fun l0 m0 => ?_)
 refine go_region rfl ?_
 refine go_pure0 Tk rfl rfl rfl ?_
 refine go_nil ?_
 refine go_env [(1, _), (3, _)] ⟨rfl, rfl, trivial⟩ ?_
 refine go_block ?_
 refine go_loop' (X := Nat) (fun k => [(3, .int .i64 (k : Int))]) [(1, _)] (fun _ => []) (fun k => k ≤ c.b.length ∧ ∀ l ∈ c.b.take k, mayA l.a = true) (fun k => c.b.length - k) (0) ⟨rfl, rfl, trivial⟩ (by repeat constructor) ⟨by omega, by simp⟩ ?_
 intro k ⟨hk, hz⟩
 iterate 8 first | refine go_seq ?_ | refine go_region rfl ?_ | refine go_pure0 Tk rfl rfl rfl ?_ | refine go_val0 rfl (ldv Tk rfl rfl rfl) rfl ?_
 refine go_nil ?_
 refine go_env [(1, _), (3, _), (8, _)] ⟨rfl, rfl, rfl, trivial⟩ ?_
 refine go_condD rfl ?_ ?_
 ·intro hq1
  iterate 4 first | refine go_skip ?_ | refine go_seq ?_ | refine go_block ?_
  refine go_elem_li (xs := c.b) (by repeat constructor) (k) (List.getElem?_eq_getElem (by omega)) (fun b1 o1 A1 c1 hA => ?_); cases hA
  iterate 4 first | refine go_region rfl ?_ | refine go_pure0 Tk rfl rfl rfl ?_ | refine go_val0 rfl (ldv Tk rfl rfl rfl) rfl ?_
  refine go_val0 rfl (idx_val Tk rfl rfl rfl rfl rfl (by omega)) rfl ?_
  refine go_pure0 Tk rfl rfl rfl ?_
  refine go_val0 rfl (ldv Tk rfl rfl rfl) rfl ?_
  refine go_call (ref05MayAtom c.b[k].a A1 c1) rfl rfl (by rfl) rfl (by repeat constructor) (by repeat constructor) (fun h => nomatch h) ?_
  rintro _ _ _ ⟨rfl, rfl, rfl⟩
  refine go_pure0 Tk rfl rfl rfl ?_
  refine go_nil ?_
  refine go_env [(1, _), (3, _), (18, _)] ⟨rfl, rfl, rfl, trivial⟩ ?_
  refine go_cond rfl ?_ ?_
  ·intro g1
   (try simp only [decide_eq_true_eq, decide_eq_false_iff_not, Bool.not_eq_true', Bool.not_eq_false', Bool.not_eq_eq_eq_not, Bool.not_true, Bool.not_false, Int.not_lt, Int.not_le, beq_iff_eq, beq_eq_false_iff_ne, ne_eq] at g1)
   refine go_seq ?_
   refine go_region rfl ?_
   refine go_pure0 Tk rfl rfl rfl ?_
   refine go_nil ?_
   refine go_env [(2, _)] ⟨rfl, trivial⟩ ?_
   refine go_ret ⟨rfl, rfl⟩ _ _ (res1 (by rfl) (.tmp rfl)) ⟨by rw [show mayC c = false from Bool.eq_false_iff.2 (fun e => by have := (mayC_iff.1 e).2.2 c.b[k] (List.getElem_mem _); exact absurd (g1.symm.trans this) (by decide))], rfl, rfl⟩ (by repeat constructor) (by repeat constructor)
  ·intro g1
   (try simp only [decide_eq_true_eq, decide_eq_false_iff_not, Bool.not_eq_true', Bool.not_eq_false', Bool.not_eq_eq_eq_not, Bool.not_true, Bool.not_false, Int.not_lt, Int.not_le, beq_iff_eq, beq_eq_false_iff_ne, ne_eq] at g1)
   refine go_skip ?_
   refine go_blk ?_
   iterate 4 first | refine go_region rfl ?_ | refine go_pure0 Tk rfl rfl rfl ?_
   refine go_nil ?_
   refine go_i64 3 rfl (by omega) (by omega) ?_
   refine go_back (k + 1) ⟨rfl, rfl, trivial⟩ (by repeat constructor) (by repeat constructor) (⟨by omega, mem_take_next (by omega) hz g1⟩) (by omega)
 ·intro hq1
  refine go_exit rfl ?_
  refine go_seq ?_
  refine go_region rfl ?_
  refine go_pure0 Tk rfl rfl rfl ?_
  refine go_val0 rfl (ldv Tk rfl rfl rfl) rfl ?_
  refine go_call (ref05MayAtom c.h CA cc) rfl rfl (by rfl) rfl (by repeat constructor) (by repeat constructor) (fun h => nomatch h) ?_
  rintro _ _ _ ⟨rfl, rfl, rfl⟩
  refine go_pure0 Tk rfl rfl rfl ?_
  refine go_known 22 rfl ?_ ?_
  ·intro g2
   (try simp only [decide_eq_true_eq, decide_eq_false_iff_not, Bool.not_eq_true', Bool.not_eq_false', Bool.not_eq_eq_eq_not, Bool.not_true, Bool.not_false, Int.not_lt, Int.not_le, beq_iff_eq, beq_eq_false_iff_ne, ne_eq] at g2)
   iterate 6 first | refine go_pure0 Tk rfl rfl rfl ?_ | refine go_val0 rfl (ldv Tk rfl rfl rfl) rfl ?_
   refine go_nil ?_
   refine go_env [(2, _)] ⟨rfl, trivial⟩ ?_
   refine go_ret ⟨rfl, rfl⟩ _ _ (res1 (by rfl) (.tmp rfl)) ⟨by first | exact congrArg Value.bool (Bool.eq_iff_iff.2 (by rw [decide_eq_true_eq, mayC_iff]; rw [List.take_of_length_le (by omega)] at hz; exact ⟨fun h => ⟨by omega, g2, hz⟩, fun h => by omega⟩)) | rw [show mayC c = false from Bool.eq_false_iff.2 (fun e => absurd (g2.symm.trans (mayC_iff.1 e).2.1) (by decide))], rfl, rfl⟩ (by repeat constructor) (by repeat constructor)
  ·intro g2
   (try simp only [decide_eq_true_eq, decide_eq_false_iff_not, Bool.not_eq_true', Bool.not_eq_false', Bool.not_eq_eq_eq_not, Bool.not_true, Bool.not_false, Int.not_lt, Int.not_le, beq_iff_eq, beq_eq_false_iff_ne, ne_eq] at g2)
   iterate 6 first | refine go_skip0 rfl rfl ?_ | refine go_pure0 Tk rfl rfl rfl ?_
   refine go_nil ?_
   refine go_env [(2, _)] ⟨rfl, trivial⟩ ?_
   refine go_ret ⟨rfl, rfl⟩ _ _ (res1 (by rfl) (.tmp rfl)) ⟨by first | exact congrArg Value.bool (Bool.eq_iff_iff.2 (by rw [decide_eq_true_eq, mayC_iff]; rw [List.take_of_length_le (by omega)] at hz; exact ⟨fun h => ⟨by omega, g2, hz⟩, fun h => by omega⟩)) | rw [show mayC c = false from Bool.eq_false_iff.2 (fun e => absurd (g2.symm.trans (mayC_iff.1 e).2.1) (by decide))], rfl, rfl⟩ (by repeat constructor) (by repeat constructor)

set_option maxHeartbeats 2000000 in
set_option maxRecDepth 20000 in
theorem ref11in (a : Am) (AA : Option Addr) (ac : Nat) (n : Int) :
    Spec Tryz.prog 105 #[.agg #[.int .u32 a.p, .slice AA a.a.length ac], .int .u32 n] [sl tTm AA ac a.a] [] (fun v Ps' Os' => v = .bool (decide (n ∈ vars a)) ∧ Ps' = [] ∧ Os' = []) := by
 refine spec_of (fn := Tryz.f105) (args := [.agg #[.int .u32 a.p, .slice AA a.a.length ac], .int .u32 n]) 29 Tryz.func105 rfl (by kernel_rfl) Tryz.ntmps105 (Nat.le_of_ble_eq_true rfl) (fun w0 hp0 hf0 => ?_)
 refine go_seq ?_
 refine go_region rfl ?_
 refine go_box Tk rfl rfl rfl rfl (by rfl) rfl rfl (fun h => nomatch h) ?_
 intro b0
 refine go_pure0 Tk rfl rfl rfl ?_
 refine go_nil ?_
 refine go_freeze_pt (b := b0) (by repeat constructor) ?_
 refine go_env [(1, _), (2, _)] ⟨rfl, rfl, trivial⟩ ?_
 iterate 2 refine go_seq ?_
 refine go_len (xs := a.a) (by repeat constructor) (fun l0 m0 => ?_)
 refine go_region rfl ?_
 refine go_pure0 Tk rfl rfl rfl ?_
 refine go_nil ?_
 refine go_env [(1, _), (2, _), (5, _)] ⟨rfl, rfl, rfl, trivial⟩ ?_
 refine go_block ?_
 refine go_loop' (X := Nat) (fun k => [(5, .int .i64 (k : Int))]) [(1, _), (2, _)] (fun _ => []) (fun k => k ≤ a.a.length ∧ ∀ t ∈ a.a.take k, ¬ (t.v = true ∧ t.n = n)) (fun k => a.a.length - k) (0) ⟨rfl, rfl, rfl, trivial⟩ (by repeat constructor) ⟨by omega, by simp⟩ ?_
 intro k ⟨hk, hz⟩
 iterate 8 first | refine go_seq ?_ | refine go_region rfl ?_ | refine go_pure0 Tk rfl rfl rfl ?_ | refine go_val0 rfl (ldv Tk rfl rfl rfl) rfl ?_
 refine go_nil ?_
 refine go_env [(1, _), (2, _), (5, _), (10, _)] ⟨rfl, rfl, rfl, rfl, trivial⟩ ?_
 refine go_condD rfl ?_ ?_
 ·intro hq1
  iterate 4 first | refine go_skip ?_ | refine go_seq ?_ | refine go_block ?_
  refine go_elem_tm (xs := a.a) (by repeat constructor) (k) (List.getElem?_eq_getElem (by omega)) (fun b1 o1 hA => ?_); cases hA
  iterate 4 first | refine go_region rfl ?_ | refine go_pure0 Tk rfl rfl rfl ?_ | refine go_val0 rfl (ldv Tk rfl rfl rfl) rfl ?_
  refine go_val0 rfl (idx_val Tk rfl rfl rfl rfl rfl (by omega)) rfl ?_
  iterate 3 first | refine go_pure0 Tk rfl rfl rfl ?_ | refine go_val0 rfl (ldv Tk rfl rfl rfl) rfl ?_
  refine go_known 19 rfl ?_ ?_
  ·intro g1
   (try simp only [decide_eq_true_eq, decide_eq_false_iff_not, Bool.not_eq_true', Bool.not_eq_false', Bool.not_eq_eq_eq_not, Bool.not_true, Bool.not_false, Int.not_lt, Int.not_le, beq_iff_eq, beq_eq_false_iff_ne, ne_eq] at g1)
   iterate 3 first | refine go_pure0 Tk rfl rfl rfl ?_ | refine go_val0 rfl (ldv Tk rfl rfl rfl) rfl ?_
   refine go_val0 rfl (idx_val Tk rfl rfl rfl rfl rfl (by omega)) rfl ?_
   iterate 5 first | refine go_pure0 Tk rfl rfl rfl ?_ | refine go_val0 rfl (ldv Tk rfl rfl rfl) rfl ?_
   refine go_nil ?_
   refine go_env [(1, _), (2, _), (5, _), (20, _), (21, _), (22, _), (23, _), (24, _), (25, _), (26, _), (27, _), (28, _)] ⟨rfl, rfl, rfl, rfl, rfl, rfl, rfl, rfl, rfl, rfl, rfl, rfl, trivial⟩ ?_
   refine go_cond rfl ?_ ?_
   ·intro g2
    (try simp only [decide_eq_true_eq, decide_eq_false_iff_not, Bool.not_eq_true', Bool.not_eq_false', Bool.not_eq_eq_eq_not, Bool.not_true, Bool.not_false, Int.not_lt, Int.not_le, beq_iff_eq, beq_eq_false_iff_ne, ne_eq] at g2)
    refine go_seq ?_
    refine go_region rfl ?_
    refine go_pure0 Tk rfl rfl rfl ?_
    refine go_nil ?_
    refine go_env [(4, _)] ⟨rfl, trivial⟩ ?_
    refine go_ret ⟨rfl, rfl⟩ _ _ (res1 (by rfl) (.tmp rfl)) ⟨by first | rw [decide_eq_true (mem_vars.2 ⟨a.a[k], List.getElem_mem _, g1, g2⟩)] | (rw [decide_eq_false]; intro q; obtain ⟨t, ht, q1, q2⟩ := mem_vars.1 q; rw [List.take_of_length_le (by omega)] at hz; exact hz t ht ⟨q1, q2⟩), rfl, rfl⟩ (by repeat constructor) (by repeat constructor)
   ·intro g2
    (try simp only [decide_eq_true_eq, decide_eq_false_iff_not, Bool.not_eq_true', Bool.not_eq_false', Bool.not_eq_eq_eq_not, Bool.not_true, Bool.not_false, Int.not_lt, Int.not_le, beq_iff_eq, beq_eq_false_iff_ne, ne_eq] at g2)
    refine go_skip ?_
    refine go_blk ?_
    iterate 4 first | refine go_region rfl ?_ | refine go_pure0 Tk rfl rfl rfl ?_
    refine go_nil ?_
    refine go_i64 5 rfl (by omega) (by omega) ?_
    refine go_back (k + 1) ⟨rfl, rfl, rfl, trivial⟩ (by repeat constructor) (by repeat constructor) (⟨by omega, mem_take_next (by omega) hz (fun q => by first | exact absurd (g1.symm.trans q.1) (by decide) | exact g2 q.2)⟩) (by omega)
  ·intro g1
   (try simp only [decide_eq_true_eq, decide_eq_false_iff_not, Bool.not_eq_true', Bool.not_eq_false', Bool.not_eq_eq_eq_not, Bool.not_true, Bool.not_false, Int.not_lt, Int.not_le, beq_iff_eq, beq_eq_false_iff_ne, ne_eq] at g1)
   iterate 9 first | refine go_skip0 rfl rfl ?_ | refine go_pure0 Tk rfl rfl rfl ?_
   refine go_nil ?_
   refine go_env [(1, _), (2, _), (5, _), (20, _), (21, _), (22, _), (23, _), (24, _), (25, _), (26, _), (27, _), (28, _)] ⟨rfl, rfl, rfl, rfl, rfl, rfl, rfl, rfl, rfl, rfl, rfl, rfl, trivial⟩ ?_
   refine go_cond_f rfl ?_
   refine go_skip ?_
   refine go_blk ?_
   iterate 4 first | refine go_region rfl ?_ | refine go_pure0 Tk rfl rfl rfl ?_
   refine go_nil ?_
   refine go_i64 5 rfl (by omega) (by omega) ?_
   refine go_back (k + 1) ⟨rfl, rfl, rfl, trivial⟩ (by repeat constructor) (by repeat constructor) (⟨by omega, mem_take_next (by omega) hz (fun q => by first | exact absurd (g1.symm.trans q.1) (by decide) | exact g2 q.2)⟩) (by omega)
 ·intro hq1
  refine go_exit rfl ?_
  refine go_seq ?_
  refine go_region rfl ?_
  refine go_pure0 Tk rfl rfl rfl ?_
  refine go_nil ?_
  refine go_env [(4, _)] ⟨rfl, trivial⟩ ?_
  refine go_ret ⟨rfl, rfl⟩ _ _ (res1 (by rfl) (.tmp rfl)) ⟨by first | rw [decide_eq_true (mem_vars.2 ⟨a.a[k], List.getElem_mem _, g1, g2⟩)] | (rw [decide_eq_false]; intro q; obtain ⟨t, ht, q1, q2⟩ := mem_vars.1 q; rw [List.take_of_length_le (by omega)] at hz; exact hz t ht ⟨q1, q2⟩), rfl, rfl⟩ (by repeat constructor) (by repeat constructor)

set_option maxHeartbeats 2000000 in
set_option maxRecDepth 20000 in
theorem ref11held (c : Cl) (CA : Option Addr) (cc : Nat) (CB : Option Addr) (cd : Nat) (a : Am) (AA : Option Addr) (ac : Nat) :
    Spec Tryz.prog 92 #[.agg #[.int .u32 c.h.p, .slice CA c.h.a.length cc, .slice CB c.b.length cd], .agg #[.int .u32 a.p, .slice AA a.a.length ac]] [sl tTm CA cc c.h.a, sl tLi CB cd c.b, sl tTm AA ac a.a] [] (fun v Ps' Os' => v = .bool (heldIn c a) ∧ Ps' = [] ∧ Os' = []) := by
 refine spec_of (fn := Tryz.f92) (args := [.agg #[.int .u32 c.h.p, .slice CA c.h.a.length cc, .slice CB c.b.length cd], .agg #[.int .u32 a.p, .slice AA a.a.length ac]]) 56 Tryz.func92 rfl (by kernel_rfl) Tryz.ntmps92 (Nat.le_of_ble_eq_true rfl) (fun w0 hp0 hf0 => ?_)
 refine go_seq ?_
 refine go_region rfl ?_
 refine go_box Tk rfl rfl rfl rfl (by rfl) rfl rfl (fun h => nomatch h) ?_
 intro bC
 refine go_box Tk rfl rfl rfl rfl (by rfl) rfl rfl (fun h => nomatch h) ?_
 intro bA
 refine go_pure0 Tk rfl rfl rfl ?_
 refine go_nil ?_
 refine go_freeze_pt (b := bC) (by repeat constructor) ?_
 refine go_freeze_pt (b := bA) (by repeat constructor) ?_
 refine go_env [(2, _), (3, _)] ⟨rfl, rfl, trivial⟩ ?_
 iterate 2 refine go_seq ?_
 refine go_len (xs := a.a) (by repeat constructor) (fun l0 m0 => ?_)
 refine go_len (xs := c.b) (by repeat constructor) (fun l1 m1 => ?_)
 refine go_region rfl ?_
 refine go_pure0 Tk rfl rfl rfl ?_
 refine go_nil ?_
 refine go_env [(2, _), (3, _), (5, _)] ⟨rfl, rfl, rfl, trivial⟩ ?_
 refine go_block ?_
 refine go_loop' (X := Nat) (fun k => [(5, .int .i64 (k : Int))]) [(2, _), (3, _)] (fun _ => []) (fun k => k ≤ a.a.length ∧ ∀ t ∈ a.a.take k, t.v = true → t.n ∈ heldBy c) (fun k => a.a.length - k) (0) ⟨rfl, rfl, rfl, trivial⟩ (by repeat constructor) ⟨by omega, by simp⟩ ?_
 intro k ⟨hk, hz⟩
 iterate 8 first | refine go_seq ?_ | refine go_region rfl ?_ | refine go_pure0 Tk rfl rfl rfl ?_ | refine go_val0 rfl (ldv Tk rfl rfl rfl) rfl ?_
 refine go_nil ?_
 refine go_env [(2, _), (3, _), (5, _), (12, _)] ⟨rfl, rfl, rfl, rfl, trivial⟩ ?_
 refine go_condD rfl ?_ ?_
 ·intro hq1
  iterate 5 first | refine go_skip ?_ | refine go_seq ?_ | refine go_block ?_
  refine go_elem_tm (xs := a.a) (by repeat constructor) (k) (List.getElem?_eq_getElem (by omega)) (fun b1 o1 hA => ?_); cases hA
  iterate 4 first | refine go_region rfl ?_ | refine go_pure0 Tk rfl rfl rfl ?_ | refine go_val0 rfl (ldv Tk rfl rfl rfl) rfl ?_
  refine go_val0 rfl (idx_val Tk rfl rfl rfl rfl rfl (by omega)) rfl ?_
  iterate 3 first | refine go_pure0 Tk rfl rfl rfl ?_ | refine go_val0 rfl (ldv Tk rfl rfl rfl) rfl ?_
  refine go_nil ?_
  refine go_env [(2, _), (3, _), (5, _), (21, _)] ⟨rfl, rfl, rfl, rfl, trivial⟩ ?_
  refine go_cond rfl ?_ ?_
  ·intro g1
   (try simp only [decide_eq_true_eq, decide_eq_false_iff_not, Bool.not_eq_true', Bool.not_eq_false', Bool.not_eq_eq_eq_not, Bool.not_true, Bool.not_false, Int.not_lt, Int.not_le, beq_iff_eq, beq_eq_false_iff_ne, ne_eq] at g1)
   iterate 5 first | refine go_exit rfl ?_ | refine go_region rfl ?_ | refine go_pure0 Tk rfl rfl rfl ?_
   refine go_nil ?_
   refine go_i64 5 rfl (by omega) (by omega) ?_
   refine go_back (k + 1) ⟨rfl, rfl, rfl, trivial⟩ (by repeat constructor) (by repeat constructor) (⟨by omega, mem_take_next (by omega) hz (fun q => by first | exact absurd (g1.symm.trans q) (by decide) | exact held_full (m := m) (by omega) (by first | exact g4 | simpa using g4))⟩) (by omega)
  ·intro g1
   (try simp only [decide_eq_true_eq, decide_eq_false_iff_not, Bool.not_eq_true', Bool.not_eq_false', Bool.not_eq_eq_eq_not, Bool.not_true, Bool.not_false, Int.not_lt, Int.not_le, beq_iff_eq, beq_eq_false_iff_ne, ne_eq] at g1)
   refine go_skip ?_
   refine go_seq ?_
   refine go_region rfl ?_
   refine go_pure0 Tk rfl rfl rfl ?_
   refine go_nil ?_
   refine go_env [(2, _), (3, _), (5, _), (6, _)] ⟨rfl, rfl, rfl, rfl, trivial⟩ ?_
   iterate 4 first | refine go_seq ?_ | refine go_region rfl ?_ | refine go_pure0 Tk rfl rfl rfl ?_
   refine go_nil ?_
   refine go_env [(2, _), (3, _), (5, _), (6, _), (7, _)] ⟨rfl, rfl, rfl, rfl, rfl, trivial⟩ ?_
   refine go_block ?_
   refine go_loop' (X := Nat) (fun m => [(6, .bool (decide (a.a[k].n ∈ heldBy ⟨c.h, c.b.take m⟩))), (7, .int .i64 (m : Int))]) [(2, _), (3, _), (5, _)] (fun _ => []) (fun m => m ≤ c.b.length) (fun m => c.b.length - m) (0) ⟨rfl, rfl, rfl, rfl, rfl, trivial⟩ (by repeat constructor) (by omega) ?_
   intro m hm
   iterate 8 first | refine go_seq ?_ | refine go_region rfl ?_ | refine go_pure0 Tk rfl rfl rfl ?_ | refine go_val0 rfl (ldv Tk rfl rfl rfl) rfl ?_
   refine go_nil ?_
   refine go_env [(2, _), (3, _), (5, _), (6, _), (7, _), (26, _)] ⟨rfl, rfl, rfl, rfl, rfl, rfl, trivial⟩ ?_
   refine go_condD rfl ?_ ?_
   ·intro hq2
    refine go_skip ?_
    refine go_seq ?_
    refine go_block ?_
    refine go_elem_li (xs := c.b) (by repeat constructor) (m) (List.getElem?_eq_getElem (by omega)) (fun b2 o2 A2 c2 hA => ?_); cases hA
    refine go_draw ([cl bC 0 [.int .u32 c.h.p, .slice CA c.h.a.length cc, .slice (some ⟨b2, o2, none⟩) c.b.length cd], cl b2 (o2 + m * 3) [.bool c.b[m].no, .int .u32 c.b[m].a.p, .slice A2 c.b[m].a.a.length c2], cl bA 0 [.int .u32 a.p, .slice (some ⟨b1, o1, none⟩) a.a.length ac], cl b1 (o1 + k * 2) [.bool a.a[k].v, .int .u32 a.a[k].n]]) ([]) [3, 7, 11, 15, 17, 21] (SL.pre [(1, 0), (1, 1), (1, 2), (1, 4), (2, 3), (1, 5), (1, 6), (2, 7), (1, 8), (1, 9), (1, 10), (1, 12), (1, 16), (1, 18), (2, 11), (1, 13), (1, 14), (2, 15), (2, 17), (1, 19), (1, 20), (2, 21), (0, 22), (1, 23), (1, 24), (1, 25)] .nil) mixed rfl (by kernel_rfl) ?_
    iterate 2 refine go_pure1 Tk rfl rfl rfl ?_
    refine go_known 30 rfl ?_ ?_
    ·intro g2
     (try simp only [decide_eq_true_eq, decide_eq_false_iff_not, Bool.not_eq_true', Bool.not_eq_false', Bool.not_eq_eq_eq_not, Bool.not_true, Bool.not_false, Int.not_lt, Int.not_le, beq_iff_eq, beq_eq_false_iff_ne, ne_eq] at g2)
     iterate 2 refine go_skip1 rfl rfl ?_
     refine go_skip2 rfl (by repeat constructor) (by repeat constructor) rfl ?_
     iterate 2 refine go_skip1 rfl rfl ?_
     refine go_skip2 rfl (by repeat constructor) (by repeat constructor) rfl ?_
     iterate 6 refine go_skip1 rfl rfl ?_
     refine go_skip2 rfl (by repeat constructor) (by repeat constructor) rfl ?_
     iterate 2 refine go_skip1 rfl rfl ?_
     refine go_skip2 rfl (by repeat constructor) (by repeat constructor) rfl ?_
     refine go_skip2 rfl (by repeat constructor) (by repeat constructor) rfl ?_
     iterate 2 refine go_skip1 rfl rfl ?_
     refine go_skip2 rfl (by repeat constructor) (by repeat constructor) rfl ?_
     iterate 4 first | refine go_skip0 rfl rfl ?_ | refine go_skip1 rfl rfl ?_ | refine go_pure1 Tk rfl rfl rfl ?_
     refine go_re 6 (.bool (decide (a.a[k].n ∈ heldBy ⟨c.h, c.b.take (m + 1)⟩))) (by show some (Value.bool _) = _; first | rw [held_a (by omega) g2] | rw [held_b (by omega) g2 g3] | rw [held_c (by omega) g2 g3]) ?_
     refine go_nil ?_
     refine go_env [(2, _), (3, _), (5, _), (6, _), (7, _), (31, _), (32, _), (33, _), (34, _), (35, _), (36, _), (37, _), (38, _), (39, _), (40, _), (41, _), (42, _), (43, _), (44, _), (45, _), (46, _), (47, _), (48, _), (49, _), (50, _), (51, _), (52, _)] ⟨rfl, rfl, rfl, rfl, rfl, rfl, rfl, rfl, rfl, rfl, rfl, rfl, rfl, rfl, rfl, rfl, rfl, rfl, rfl, rfl, rfl, rfl, rfl, rfl, rfl, rfl, rfl, trivial⟩ ?_
     refine go_blk ?_
     iterate 4 first | refine go_region rfl ?_ | refine go_pure0 Tk rfl rfl rfl ?_
     refine go_nil ?_
     refine go_i64 7 rfl (by omega) (by omega) ?_
     refine go_back (m + 1) ⟨rfl, rfl, rfl, rfl, rfl, trivial⟩ (by repeat constructor) (by repeat constructor) (by omega) (by omega)
    ·intro g2
     (try simp only [decide_eq_true_eq, decide_eq_false_iff_not, Bool.not_eq_true', Bool.not_eq_false', Bool.not_eq_eq_eq_not, Bool.not_true, Bool.not_false, Int.not_lt, Int.not_le, beq_iff_eq, beq_eq_false_iff_ne, ne_eq] at g2)
     iterate 3 first | refine go_pure1 Tk rfl rfl rfl ?_ | refine go_val2a rfl (ldv Tk rfl rfl rfl) rfl ?_
     refine go_val1 rfl (idx_val Tk rfl rfl rfl rfl rfl (by omega)) rfl ?_
     iterate 4 first | refine go_pure1 Tk rfl rfl rfl ?_ | refine go_val2a rfl (ldv Tk rfl rfl rfl) rfl ?_
     refine go_known 38 rfl ?_ ?_
     ·intro g3
      (try simp only [decide_eq_true_eq, decide_eq_false_iff_not, Bool.not_eq_true', Bool.not_eq_false', Bool.not_eq_eq_eq_not, Bool.not_true, Bool.not_false, Int.not_lt, Int.not_le, beq_iff_eq, beq_eq_false_iff_ne, ne_eq] at g3)
      iterate 5 first | refine go_pure1 Tk rfl rfl rfl ?_ | refine go_val2a rfl (ldv Tk rfl rfl rfl) rfl ?_
      refine go_val1 rfl (idx_val Tk rfl rfl rfl rfl rfl (by omega)) rfl ?_
      iterate 3 first | refine go_pure1 Tk rfl rfl rfl ?_ | refine go_val2a rfl (ldv Tk rfl rfl rfl) rfl ?_
      refine go_val1 rfl (idx_val Tk rfl rfl rfl rfl rfl (by omega)) rfl ?_
      refine go_pure1 Tk rfl rfl rfl ?_
      refine go_val2a rfl (ldv Tk rfl rfl rfl) rfl ?_
      refine go_call (ref11in c.b[m].a A2 c2 a.a[k].n) rfl rfl (by rfl) rfl (by repeat constructor) (by repeat constructor) (fun h => nomatch h) ?_
      rintro _ _ _ ⟨rfl, rfl, rfl⟩
      iterate 3 refine go_pure1 Tk rfl rfl rfl ?_
      refine go_re 6 (.bool (decide (a.a[k].n ∈ heldBy ⟨c.h, c.b.take (m + 1)⟩))) (by show some (Value.bool _) = _; first | rw [held_a (by omega) g2] | rw [held_b (by omega) g2 g3] | rw [held_c (by omega) g2 g3]) ?_
      refine go_nil ?_
      refine go_env [(2, _), (3, _), (5, _), (6, _), (7, _), (31, _), (32, _), (33, _), (34, _), (35, _), (36, _), (37, _), (38, _), (39, _), (40, _), (41, _), (42, _), (43, _), (44, _), (45, _), (46, _), (47, _), (48, _), (49, _), (50, _), (51, _), (52, _)] ⟨rfl, rfl, rfl, rfl, rfl, rfl, rfl, rfl, rfl, rfl, rfl, rfl, rfl, rfl, rfl, rfl, rfl, rfl, rfl, rfl, rfl, rfl, rfl, rfl, rfl, rfl, rfl, trivial⟩ ?_
      refine go_blk ?_
      iterate 4 first | refine go_region rfl ?_ | refine go_pure0 Tk rfl rfl rfl ?_
      refine go_nil ?_
      refine go_i64 7 rfl (by omega) (by omega) ?_
      refine go_back (m + 1) ⟨rfl, rfl, rfl, rfl, rfl, trivial⟩ (by repeat constructor) (by repeat constructor) (by omega) (by omega)
     ·intro g3
      (try simp only [decide_eq_true_eq, decide_eq_false_iff_not, Bool.not_eq_true', Bool.not_eq_false', Bool.not_eq_eq_eq_not, Bool.not_true, Bool.not_false, Int.not_lt, Int.not_le, beq_iff_eq, beq_eq_false_iff_ne, ne_eq] at g3)
      iterate 4 refine go_skip1 rfl rfl ?_
      refine go_skip2 rfl (by repeat constructor) (by repeat constructor) rfl ?_
      iterate 2 refine go_skip1 rfl rfl ?_
      refine go_skip2 rfl (by repeat constructor) (by repeat constructor) rfl ?_
      refine go_skip2 rfl (by repeat constructor) (by repeat constructor) rfl ?_
      iterate 2 refine go_skip1 rfl rfl ?_
      refine go_skip2 rfl (by repeat constructor) (by repeat constructor) rfl ?_
      iterate 4 first | refine go_skip0 rfl rfl ?_ | refine go_pure1 Tk rfl rfl rfl ?_
      refine go_re 6 (.bool (decide (a.a[k].n ∈ heldBy ⟨c.h, c.b.take (m + 1)⟩))) (by show some (Value.bool _) = _; first | rw [held_a (by omega) g2] | rw [held_b (by omega) g2 g3] | rw [held_c (by omega) g2 g3]) ?_
      refine go_nil ?_
      refine go_env [(2, _), (3, _), (5, _), (6, _), (7, _), (31, _), (32, _), (33, _), (34, _), (35, _), (36, _), (37, _), (38, _), (39, _), (40, _), (41, _), (42, _), (43, _), (44, _), (45, _), (46, _), (47, _), (48, _), (49, _), (50, _), (51, _), (52, _)] ⟨rfl, rfl, rfl, rfl, rfl, rfl, rfl, rfl, rfl, rfl, rfl, rfl, rfl, rfl, rfl, rfl, rfl, rfl, rfl, rfl, rfl, rfl, rfl, rfl, rfl, rfl, rfl, trivial⟩ ?_
      refine go_blk ?_
      iterate 4 first | refine go_region rfl ?_ | refine go_pure0 Tk rfl rfl rfl ?_
      refine go_nil ?_
      refine go_i64 7 rfl (by omega) (by omega) ?_
      refine go_back (m + 1) ⟨rfl, rfl, rfl, rfl, rfl, trivial⟩ (by repeat constructor) (by repeat constructor) (by omega) (by omega)
   ·intro hq2
    iterate 5 first | refine go_exit rfl ?_ | refine go_seq ?_ | refine go_region rfl ?_ | refine go_pure0 Tk rfl rfl rfl ?_
    refine go_nil ?_
    refine go_env [(2, _), (3, _), (5, _), (55, _)] ⟨rfl, rfl, rfl, rfl, trivial⟩ ?_
    refine go_cond rfl ?_ ?_
    ·intro g4
     (try simp only [decide_eq_true_eq, decide_eq_false_iff_not, Bool.not_eq_true', Bool.not_eq_false', Bool.not_eq_eq_eq_not, Bool.not_true, Bool.not_false, Int.not_lt, Int.not_le, beq_iff_eq, beq_eq_false_iff_ne, ne_eq] at g4)
     refine go_seq ?_
     refine go_region rfl ?_
     refine go_pure0 Tk rfl rfl rfl ?_
     refine go_nil ?_
     refine go_env [(4, _)] ⟨rfl, trivial⟩ ?_
     refine go_ret ⟨rfl, rfl⟩ _ _ (res1 (by rfl) (.tmp rfl)) ⟨by rw [heldIn_no (List.getElem_mem _) g1 (fun q => by rw [List.take_of_length_le (by omega)] at g4; exact g4 q)], rfl, rfl⟩ (by repeat constructor) (by repeat constructor)
    ·intro g4
     (try simp only [decide_eq_true_eq, decide_eq_false_iff_not, Bool.not_eq_true', Bool.not_eq_false', Bool.not_eq_eq_eq_not, Bool.not_true, Bool.not_false, Int.not_lt, Int.not_le, beq_iff_eq, beq_eq_false_iff_ne, ne_eq] at g4)
     refine go_skip ?_
     refine go_blk ?_
     iterate 4 first | refine go_region rfl ?_ | refine go_pure0 Tk rfl rfl rfl ?_
     refine go_nil ?_
     refine go_i64 5 rfl (by omega) (by omega) ?_
     refine go_back (k + 1) ⟨rfl, rfl, rfl, trivial⟩ (by repeat constructor) (by repeat constructor) (⟨by omega, mem_take_next (by omega) hz (fun q => by first | exact absurd (g1.symm.trans q) (by decide) | exact held_full (m := m) (by omega) (by first | exact g4 | simpa using g4))⟩) (by omega)
 ·intro hq1
  refine go_exit rfl ?_
  refine go_seq ?_
  refine go_region rfl ?_
  refine go_pure0 Tk rfl rfl rfl ?_
  refine go_nil ?_
  refine go_env [(4, _)] ⟨rfl, trivial⟩ ?_
  refine go_ret ⟨rfl, rfl⟩ _ _ (res1 (by rfl) (.tmp rfl)) ⟨by rw [heldIn_yes (by rw [List.take_of_length_le (by omega)] at hz; exact hz)], rfl, rfl⟩ (by repeat constructor) (by repeat constructor)

set_option maxHeartbeats 2000000 in
set_option maxRecDepth 20000 in
theorem ref11Safe (c : Cl) (CA : Option Addr) (cc : Nat) (CB : Option Addr) (cd : Nat) :
    Spec Tryz.prog 73 #[.agg #[.int .u32 c.h.p, .slice CA c.h.a.length cc, .slice CB c.b.length cd]] [sl tTm CA cc c.h.a, sl tLi CB cd c.b] [] (fun v Ps' Os' => v = .bool (heldC c) ∧ Ps' = [] ∧ Os' = []) := by
 refine spec_of (fn := Tryz.f73) (args := [.agg #[.int .u32 c.h.p, .slice CA c.h.a.length cc, .slice CB c.b.length cd]]) 33 Tryz.func73 rfl (by kernel_rfl) Tryz.ntmps73 (Nat.le_of_ble_eq_true rfl) (fun w0 hp0 hf0 => ?_)
 refine go_seq ?_
 refine go_region rfl ?_
 refine go_box Tk rfl rfl rfl rfl (by rfl) rfl rfl (fun h => nomatch h) ?_
 intro bC
 refine go_pure0 Tk rfl rfl rfl ?_
 refine go_nil ?_
 refine go_freeze_pt (b := bC) (by repeat constructor) ?_
 refine go_env [(1, _)] ⟨rfl, trivial⟩ ?_
 iterate 2 refine go_seq ?_
 refine go_len (xs := c.b) (by repeat constructor) (fun l0 m0 => ?_)
 iterate 4 first | refine go_region rfl ?_ | refine go_val0 rfl (ldv Tk rfl rfl rfl) rfl ?_ | refine go_pure0 Tk rfl rfl rfl ?_
 refine go_call (ref11held c CA cc CB cd c.h CA cc) rfl rfl (by rfl) rfl (by repeat constructor) (by repeat constructor) (fun h => nomatch h) ?_
 rintro _ _ _ ⟨rfl, rfl, rfl⟩
 refine go_pure0 Tk rfl rfl rfl ?_
 refine go_nil ?_
 refine go_env [(1, _), (8, _)] ⟨rfl, rfl, trivial⟩ ?_
 refine go_cond rfl ?_ ?_
 ·intro g1
  (try simp only [decide_eq_true_eq, decide_eq_false_iff_not, Bool.not_eq_true', Bool.not_eq_false', Bool.not_eq_eq_eq_not, Bool.not_true, Bool.not_false, Int.not_lt, Int.not_le, beq_iff_eq, beq_eq_false_iff_ne, ne_eq] at g1)
  refine go_seq ?_
  refine go_region rfl ?_
  refine go_pure0 Tk rfl rfl rfl ?_
  refine go_nil ?_
  refine go_env [(2, _)] ⟨rfl, trivial⟩ ?_
  refine go_ret ⟨rfl, rfl⟩ _ _ (res1 (by rfl) (.tmp rfl)) ⟨by rw [heldC_no (fun q => absurd (g1.symm.trans (heldIn_yes q.1)) (by decide))], rfl, rfl⟩ (by repeat constructor) (by repeat constructor)
 ·intro g1
  (try simp only [decide_eq_true_eq, decide_eq_false_iff_not, Bool.not_eq_true', Bool.not_eq_false', Bool.not_eq_eq_eq_not, Bool.not_true, Bool.not_false, Int.not_lt, Int.not_le, beq_iff_eq, beq_eq_false_iff_ne, ne_eq] at g1)
  iterate 5 first | refine go_skip ?_ | refine go_seq ?_ | refine go_region rfl ?_ | refine go_pure0 Tk rfl rfl rfl ?_
  refine go_nil ?_
  refine go_env [(1, _), (3, _)] ⟨rfl, rfl, trivial⟩ ?_
  refine go_block ?_
  refine go_loop' (X := Nat) (fun k => [(3, .int .i64 (k : Int))]) [(1, _)] (fun _ => []) (fun k => k ≤ c.b.length ∧ ∀ l ∈ c.b.take k, l.no = true → heldIn c l.a = true) (fun k => c.b.length - k) (0) ⟨rfl, rfl, trivial⟩ (by repeat constructor) ⟨by omega, by simp⟩ ?_
  intro k ⟨hk, hz⟩
  iterate 8 first | refine go_seq ?_ | refine go_region rfl ?_ | refine go_pure0 Tk rfl rfl rfl ?_ | refine go_val0 rfl (ldv Tk rfl rfl rfl) rfl ?_
  refine go_nil ?_
  refine go_env [(1, _), (3, _), (13, _)] ⟨rfl, rfl, rfl, trivial⟩ ?_
  refine go_condD rfl ?_ ?_
  ·intro hq1
   iterate 4 first | refine go_skip ?_ | refine go_seq ?_ | refine go_block ?_
   refine go_elem_li (xs := c.b) (by repeat constructor) (k) (List.getElem?_eq_getElem (by omega)) (fun b1 o1 A1 c1 hA => ?_); cases hA
   refine go_draw ([cl bC 0 [.int .u32 c.h.p, .slice CA c.h.a.length cc, .slice (some ⟨b1, o1, none⟩) c.b.length cd], cl b1 (o1 + k * 3) [.bool c.b[k].no, .int .u32 c.b[k].a.p, .slice A1 c.b[k].a.a.length c1]]) ([]) [1, 5, 7, 9, 13] (SL.pre [(1, 0), (1, 2), (2, 1), (1, 3), (1, 4), (2, 5), (1, 6), (1, 8), (1, 10), (2, 7), (2, 9), (1, 11), (1, 12), (2, 13), (0, 14), (1, 15), (1, 16)] .nil) mixed rfl (by kernel_rfl) ?_
   iterate 3 first | refine go_pure1 Tk rfl rfl rfl ?_ | refine go_val2a rfl (ldv Tk rfl rfl rfl) rfl ?_
   refine go_val1 rfl (idx_val Tk rfl rfl rfl rfl rfl (by omega)) rfl ?_
   iterate 3 first | refine go_pure1 Tk rfl rfl rfl ?_ | refine go_val2a rfl (ldv Tk rfl rfl rfl) rfl ?_
   refine go_known 22 rfl ?_ ?_
   ·intro g2
    (try simp only [decide_eq_true_eq, decide_eq_false_iff_not, Bool.not_eq_true', Bool.not_eq_false', Bool.not_eq_eq_eq_not, Bool.not_true, Bool.not_false, Int.not_lt, Int.not_le, beq_iff_eq, beq_eq_false_iff_ne, ne_eq] at g2)
    iterate 4 first | refine go_pure1 Tk rfl rfl rfl ?_ | refine go_val2a rfl (ldv Tk rfl rfl rfl) rfl ?_
    refine go_val1 rfl (idx_val Tk rfl rfl rfl rfl rfl (by omega)) rfl ?_
    refine go_pure1 Tk rfl rfl rfl ?_
    refine go_val2a rfl (ldv Tk rfl rfl rfl) rfl ?_
    refine go_call (ref11held c CA cc (some ⟨b1, o1, none⟩) cd c.b[k].a A1 c1) rfl rfl (by rfl) rfl (by repeat constructor) (by repeat constructor) (fun h => nomatch h) ?_
    rintro _ _ _ ⟨rfl, rfl, rfl⟩
    iterate 2 refine go_pure1 Tk rfl rfl rfl ?_
    refine go_nil ?_
    refine go_env [(1, _), (3, _), (23, _), (24, _), (25, _), (26, _), (27, _), (28, _), (29, _), (30, _), (31, _), (32, _)] ⟨rfl, rfl, rfl, rfl, rfl, rfl, rfl, rfl, rfl, rfl, rfl, rfl, trivial⟩ ?_
    refine go_cond rfl ?_ ?_
    ·intro g3
     (try simp only [decide_eq_true_eq, decide_eq_false_iff_not, Bool.not_eq_true', Bool.not_eq_false', Bool.not_eq_eq_eq_not, Bool.not_true, Bool.not_false, Int.not_lt, Int.not_le, beq_iff_eq, beq_eq_false_iff_ne, ne_eq] at g3)
     refine go_seq ?_
     refine go_region rfl ?_
     refine go_pure0 Tk rfl rfl rfl ?_
     refine go_nil ?_
     refine go_env [(2, _)] ⟨rfl, trivial⟩ ?_
     refine go_ret ⟨rfl, rfl⟩ _ _ (res1 (by rfl) (.tmp rfl)) ⟨by rw [heldC_no (fun q => absurd (g3.symm.trans (heldIn_yes (q.2 _ (List.getElem_mem _) g2))) (by decide))], rfl, rfl⟩ (by repeat constructor) (by repeat constructor)
    ·intro g3
     (try simp only [decide_eq_true_eq, decide_eq_false_iff_not, Bool.not_eq_true', Bool.not_eq_false', Bool.not_eq_eq_eq_not, Bool.not_true, Bool.not_false, Int.not_lt, Int.not_le, beq_iff_eq, beq_eq_false_iff_ne, ne_eq] at g3)
     refine go_skip ?_
     refine go_blk ?_
     iterate 4 first | refine go_region rfl ?_ | refine go_pure0 Tk rfl rfl rfl ?_
     refine go_nil ?_
     refine go_i64 3 rfl (by omega) (by omega) ?_
     refine go_back (k + 1) ⟨rfl, rfl, trivial⟩ (by repeat constructor) (by repeat constructor) (⟨by omega, mem_take_next (by omega) hz (fun q => by first | exact absurd (g2.symm.trans q) (by decide) | exact g3)⟩) (by omega)
   ·intro g2
    (try simp only [decide_eq_true_eq, decide_eq_false_iff_not, Bool.not_eq_true', Bool.not_eq_false', Bool.not_eq_eq_eq_not, Bool.not_true, Bool.not_false, Int.not_lt, Int.not_le, beq_iff_eq, beq_eq_false_iff_ne, ne_eq] at g2)
    iterate 2 refine go_skip1 rfl rfl ?_
    refine go_skip2 rfl (by repeat constructor) (by repeat constructor) rfl ?_
    refine go_skip2 rfl (by repeat constructor) (by repeat constructor) rfl ?_
    iterate 2 refine go_skip1 rfl rfl ?_
    refine go_skip2 rfl (by repeat constructor) (by repeat constructor) rfl ?_
    refine go_skip0 rfl rfl ?_
    refine go_skip1 rfl rfl ?_
    refine go_pure1 Tk rfl rfl rfl ?_
    refine go_nil ?_
    refine go_env [(1, _), (3, _), (23, _), (24, _), (25, _), (26, _), (27, _), (28, _), (29, _), (30, _), (31, _), (32, _)] ⟨rfl, rfl, rfl, rfl, rfl, rfl, rfl, rfl, rfl, rfl, rfl, rfl, trivial⟩ ?_
    refine go_cond_f rfl ?_
    refine go_skip ?_
    refine go_blk ?_
    iterate 4 first | refine go_region rfl ?_ | refine go_pure0 Tk rfl rfl rfl ?_
    refine go_nil ?_
    refine go_i64 3 rfl (by omega) (by omega) ?_
    refine go_back (k + 1) ⟨rfl, rfl, trivial⟩ (by repeat constructor) (by repeat constructor) (⟨by omega, mem_take_next (by omega) hz (fun q => by first | exact absurd (g2.symm.trans q) (by decide) | exact g3)⟩) (by omega)
  ·intro hq1
   refine go_exit rfl ?_
   refine go_seq ?_
   refine go_region rfl ?_
   refine go_pure0 Tk rfl rfl rfl ?_
   refine go_nil ?_
   refine go_env [(2, _)] ⟨rfl, trivial⟩ ?_
   refine go_ret ⟨rfl, rfl⟩ _ _ (res1 (by rfl) (.tmp rfl)) ⟨by rw [heldC_iff.2 ⟨heldIn_iff.1 g1, fun l hl e => heldIn_iff.1 (by rw [List.take_of_length_le (by omega)] at hz; exact hz l hl e)⟩], rfl, rfl⟩ (by repeat constructor) (by repeat constructor)

set_option maxHeartbeats 2000000 in
set_option maxRecDepth 20000 in
theorem ref11Atoms (c : Cl) (CA : Option Addr) (cc : Nat) (CB : Option Addr) (cd : Nat) (hn : c.b.length ≤ 1000) :
    Spec Tryz.prog 93 #[.agg #[.int .u32 c.h.p, .slice CA c.h.a.length cc, .slice CB c.b.length cd]] [sl tTm CA cc c.h.a, sl tLi CB cd c.b] [] (fun v Ps' Os' => ∃ A k, v = .slice A (atomsC c).length k ∧ Ps' = [sl tAm A k (atomsC c)] ∧ Os' = []) := by
 refine spec_of (fn := Tryz.f93) (args := [.agg #[.int .u32 c.h.p, .slice CA c.h.a.length cc, .slice CB c.b.length cd]]) 25 Tryz.func93 rfl (by kernel_rfl) Tryz.ntmps93 (Nat.le_of_ble_eq_true rfl) (fun w0 hp0 hf0 => ?_)
 refine go_seq ?_
 refine go_region rfl ?_
 refine go_box Tk rfl rfl rfl rfl (by rfl) rfl rfl (fun h => nomatch h) ?_
 intro bC
 refine go_pure0 Tk rfl rfl rfl ?_
 refine go_nil ?_
 refine go_freeze_pt (b := bC) (by repeat constructor) ?_
 refine go_env [(1, _)] ⟨rfl, trivial⟩ ?_
 refine go_seq ?_
 refine go_len (xs := c.b) (by repeat constructor) (fun l0 m0 => ?_)
 refine go_region rfl ?_
 refine go_pure0 Tk rfl rfl rfl ?_
 refine go_val0 rfl (ldv Tk rfl rfl rfl) rfl ?_
 refine go_bslice Tk rfl rfl rfl rfl rfl rfl rfl rfl (fun h => nomatch h) ?_
 intro bl
 refine go_lit_ol (b := bl) tAm [c.h] (by repeat constructor) (fun hp a => ⟨[_, _], [], rfl, tAm_mk (a (sl tTm CA cc c.h.a) (by repeat constructor)), rfl⟩) (by simp) ?_
 refine go_same (A := ol tAm 25 _ _ [c.h]) (B := ol tAm 25 (some ⟨bl, 0, none⟩) 1 (atomsC ⟨c.h, c.b.take 0⟩)) (by repeat constructor) rfl ?_
 refine go_pure0 Tk rfl rfl rfl ?_
 refine go_nil ?_
 refine go_env [(1, _), (3, _)] ⟨rfl, rfl, trivial⟩ ?_
 refine go_seq ?_
 refine go_seq ?_
 refine go_region rfl ?_
 refine go_pure0 Tk rfl rfl rfl ?_
 refine go_nil ?_
 refine go_env [(1, _), (3, _), (4, _)] ⟨rfl, rfl, rfl, trivial⟩ ?_
 refine go_block ?_
 refine go_loop' (X := Nat × Option Addr × Nat) (fun x => [(3, .slice x.2.1 (atomsC ⟨c.h, c.b.take x.1⟩).length x.2.2), (4, .int .i64 (x.1 : Int))]) [(1, _)] (fun x => [ol tAm 25 x.2.1 x.2.2 (atomsC ⟨c.h, c.b.take x.1⟩)]) (fun x => x.1 ≤ c.b.length) (fun x => c.b.length - x.1) ((0, some ⟨bl, 0, none⟩, 1)) ⟨rfl, rfl, rfl, trivial⟩ (by repeat constructor) (by omega) ?_
 intro ⟨k, A1, k1⟩ hk
 simp only at hk ⊢
 have hal : (atomsC ⟨c.h, c.b.take k⟩).length ≤ 1001 := by rw [atomsC_len]; simp only [List.length_take]; omega
 iterate 8 first | refine go_seq ?_ | refine go_region rfl ?_ | refine go_pure0 Tk rfl rfl rfl ?_ | refine go_val0 rfl (ldv Tk rfl rfl rfl) rfl ?_
 refine go_nil ?_
 refine go_env [(1, _), (3, _), (4, _), (12, _)] ⟨rfl, rfl, rfl, rfl, trivial⟩ ?_
 refine go_condD rfl ?_ ?_
 ·intro hq1
  refine go_skip ?_
  refine go_seq ?_
  refine go_block ?_
  refine go_elem_li (xs := c.b) (by repeat constructor) (k) (List.getElem?_eq_getElem (by omega)) (fun b1 o1 A2 c2 hA => ?_); cases hA
  iterate 5 first | refine go_region rfl ?_ | refine go_pure0 Tk rfl rfl rfl ?_ | refine go_val0 rfl (ldv Tk rfl rfl rfl) rfl ?_
  refine go_val0 rfl (idx_val Tk rfl rfl rfl rfl rfl (by omega)) rfl ?_
  refine go_pure0 Tk rfl rfl rfl ?_
  refine go_val0 rfl (ldv Tk rfl rfl rfl) rfl ?_
  refine go_bslice Tk rfl rfl rfl rfl rfl rfl rfl rfl (fun h => nomatch h) ?_
  intro b1
  refine go_append1 (T := tAm) (xs := atomsC ⟨c.h, c.b.take k⟩) Tk (c.b[k].a) rfl rfl rfl rfl rfl rfl rfl rfl rfl (by repeat constructor) (by repeat constructor) rfl (ent_am (by repeat constructor)) (by omega) (by first | exact (fun _ _ _ => satA) | exact (fun h => nomatch h) | exact (fun h => nomatch (Eq.symm h).trans (show _ = false by kernel_rfl))) ?_
  intro A3 c3
  refine go_pure0 Tk rfl rfl rfl ?_
  refine go_nil ?_
  rw [atomsC_next (by omega)]
  refine go_env [(1, _), (3, _), (4, _)] ⟨rfl, rfl, rfl, trivial⟩ ?_
  refine go_blk ?_
  iterate 4 first | refine go_region rfl ?_ | refine go_pure0 Tk rfl rfl rfl ?_
  refine go_nil ?_
  refine go_i64 4 rfl (by omega) (by omega) ?_
  refine go_back (k + 1, A3, c3) ⟨rfl, rfl, rfl, trivial⟩ (by repeat constructor) (by repeat constructor) (by show k + 1 ≤ _; omega) (by show c.b.length - (k + 1) < c.b.length - k; omega)
 ·intro hq1
  refine go_exit rfl ?_
  refine go_seq ?_
  refine go_same (A := ol tAm 25 A1 k1 (atomsC ⟨c.h, c.b.take k⟩)) (B := ol tAm 25 A1 k1 (atomsC c)) (by repeat constructor) (by rw [List.take_of_length_le (by omega)]) ?_
  refine go_freeze_ol (xs := atomsC c) (by repeat constructor) ?_
  iterate 3 first | refine go_region rfl ?_ | refine go_pure0 Tk rfl rfl rfl ?_
  refine go_nil ?_
  refine go_env [(2, _)] ⟨rfl, trivial⟩ ?_
  refine go_ret ⟨rfl, rfl⟩ _ _ (res1 (by rfl) (.tmp rfl)) ⟨A1, k1, by rw [List.take_of_length_le (by omega)], rfl, rfl⟩ (by repeat constructor) (by repeat constructor)

set_option maxHeartbeats 2000000 in
set_option maxRecDepth 20000 in
theorem ref11lengths (A : Option Addr) (c : Nat) (l : List Cl) (hn : l.length ≤ 1000) (hb : ∀ x ∈ l, x.b.length ≤ 1000) :
    Spec Tryz.prog 74 #[.slice A l.length c] [sl tCl A c l] [] (fun v Ps' Os' => ∃ r, v = .bool r ∧ (r = true ↔ sameLen (atomsL l)) ∧ Ps' = [] ∧ Os' = []) := by
 refine spec_of (fn := Tryz.f74) (args := [.slice A l.length c]) 57 Tryz.func74 rfl (by kernel_rfl) Tryz.ntmps74 (Nat.le_of_ble_eq_true rfl) (fun w0 hp0 hf0 => ?_)
 refine go_seq ?_
 refine go_region rfl ?_
 refine go_pure0 Tk rfl rfl rfl ?_
 refine go_nil ?_
 refine go_env [(0, _)] ⟨rfl, trivial⟩ ?_
 refine go_seq ?_
 refine go_len (xs := l) (by repeat constructor) (fun l0 m0 => ?_)
 refine go_region rfl ?_
 refine go_pure0 Tk rfl rfl rfl ?_
 refine go_own_nil tAm 25 none ?_
 refine go_same (A := ol tAm 25 none 0 []) (B := ol tAm 25 none 0 (atomsL (l.take 0))) (by repeat constructor) rfl ?_
 refine go_nil ?_
 refine go_env [(0, _), (3, _)] ⟨rfl, rfl, trivial⟩ ?_
 refine go_seq ?_
 refine go_seq ?_
 refine go_region rfl ?_
 refine go_pure0 Tk rfl rfl rfl ?_
 refine go_nil ?_
 refine go_env [(0, _), (3, _), (4, _)] ⟨rfl, rfl, rfl, trivial⟩ ?_
 refine go_block ?_
 refine go_loop' (X := Nat × Option Addr × Nat) (fun x => [(3, .slice x.2.1 (atomsL (l.take x.1)).length x.2.2), (4, .int .i64 (x.1 : Int))]) [(0, _)] (fun x => [ol tAm 25 x.2.1 x.2.2 (atomsL (l.take x.1))]) (fun x => x.1 ≤ l.length ∧ (atomsL (l.take x.1)).length ≤ x.1 * 1001) (fun x => l.length - x.1) ((0, none, 0)) ⟨rfl, rfl, rfl, trivial⟩ (by repeat constructor) ⟨by omega, by simp [atomsL]⟩ ?_
 intro ⟨k, A1, c1⟩ ⟨hk, hal⟩
 simp only at hk hal ⊢
 iterate 7 first | refine go_seq ?_ | refine go_region rfl ?_ | refine go_pure0 Tk rfl rfl rfl ?_
 refine go_nil ?_
 refine go_env [(0, _), (3, _), (4, _), (10, _)] ⟨rfl, rfl, rfl, rfl, trivial⟩ ?_
 refine go_condD rfl ?_ ?_
 ·intro hq1
  refine go_skip ?_
  refine go_seq ?_
  refine go_block ?_
  refine go_elem_cl (xs := l) (by repeat constructor) (k) (List.getElem?_eq_getElem (by omega)) (fun b1 o1 A2 c2 B2 d2 hA => ?_); cases hA
  have hbk := hb l[k] (List.getElem_mem _)
  have hacl := atomsC_len l[k]
  iterate 4 first | refine go_region rfl ?_ | refine go_pure0 Tk rfl rfl rfl ?_
  refine go_val0 rfl (idx_val Tk rfl rfl rfl rfl rfl (by omega)) rfl ?_
  refine go_val0 rfl (ldv Tk rfl rfl rfl) rfl ?_
  refine go_call (ref11Atoms l[k] A2 c2 B2 d2 hbk) rfl rfl (by rfl) rfl (by repeat constructor) (by repeat constructor) (fun h => nomatch h) ?_
  rintro _ _ _ ⟨A4, k4, rfl, rfl, rfl⟩
  refine go_appendN (T := tAm) (xs := atomsL (l.take k)) (ys := atomsC l[k]) Tk rfl rfl rfl rfl rfl rfl rfl rfl rfl (by repeat constructor) rfl (by repeat constructor) (by omega) (by first | exact (fun _ _ _ => satA) | exact (fun h => nomatch h) | exact (fun h => nomatch (Eq.symm h).trans (show _ = false by kernel_rfl))) ?_
  intro A3 c3
  refine go_pure0 Tk rfl rfl rfl ?_
  refine go_nil ?_
  refine go_env [(0, _), (3, _), (4, _)] ⟨rfl, rfl, rfl, trivial⟩ ?_
  refine go_blk ?_
  iterate 4 first | refine go_region rfl ?_ | refine go_pure0 Tk rfl rfl rfl ?_
  refine go_nil ?_
  refine go_i64 4 rfl (by omega) (by omega) ?_
  rw [← atomsL_next (by omega)]
  refine go_back (k + 1, A3, c3) ⟨rfl, rfl, rfl, trivial⟩ (by repeat constructor) (by repeat constructor) ⟨by show k + 1 ≤ _; omega, by show (atomsL (l.take (k + 1))).length ≤ (k + 1) * 1001; rw [atomsL_next (by omega), List.length_append, atomsC_len]; omega⟩ (by show l.length - (k + 1) < l.length - k; omega)
 ·intro hq1
  iterate 3 first | refine go_exit rfl ?_ | refine go_seq ?_
  rw [List.take_of_length_le (by omega)]
  rw [List.take_of_length_le (by omega)] at hal
  refine go_freeze_ol (xs := atomsL l) (by repeat constructor) ?_
  refine go_len (xs := atomsL l) (by repeat constructor) (fun l9 m9 => ?_)
  refine go_region rfl ?_
  refine go_pure0 Tk rfl rfl rfl ?_
  refine go_nil ?_
  refine go_env [(3, _), (5, _)] ⟨rfl, rfl, trivial⟩ ?_
  refine go_block ?_
  refine go_loop' (X := Nat) (fun i => [(5, .int .i64 (i : Int))]) [(3, _)] (fun _ => []) (fun i => i ≤ (atomsL l).length ∧ sameLen ((atomsL l).take i)) (fun i => (atomsL l).length - i) (0) ⟨rfl, rfl, trivial⟩ (by repeat constructor) ⟨by omega, by simp [sameLen]⟩ ?_
  intro i ⟨hi, hz⟩
  iterate 7 first | refine go_seq ?_ | refine go_region rfl ?_ | refine go_pure0 Tk rfl rfl rfl ?_
  refine go_nil ?_
  refine go_env [(3, _), (5, _), (23, _)] ⟨rfl, rfl, rfl, trivial⟩ ?_
  refine go_condD rfl ?_ ?_
  ·intro hq2
   iterate 6 first | refine go_skip ?_ | refine go_seq ?_ | refine go_block ?_ | refine go_region rfl ?_ | refine go_pure0 Tk rfl rfl rfl ?_
   refine go_nil ?_
   refine go_env [(3, _), (5, _), (6, _)] ⟨rfl, rfl, rfl, trivial⟩ ?_
   refine go_block ?_
   refine go_loop' (X := Nat) (fun j => [(6, .int .i64 (j : Int))]) [(3, _), (5, _)] (fun _ => []) (fun j => j ≤ i ∧ ∀ b ∈ (atomsL l).take j, (atomsL l)[i].p = b.p → (atomsL l)[i].a.length = b.a.length) (fun j => i - j) (0) ⟨rfl, rfl, rfl, trivial⟩ (by repeat constructor) ⟨by omega, by simp⟩ ?_
   intro j ⟨hj, hy⟩
   iterate 2 refine go_seq ?_
   have hil : i < (atomsL l).length := by omega
   iterate 4 first | refine go_region rfl ?_ | refine go_pure0 Tk rfl rfl rfl ?_
   refine go_nil ?_
   refine go_env [(3, _), (5, _), (6, _), (28, _)] ⟨rfl, rfl, rfl, rfl, trivial⟩ ?_
   refine go_condD rfl ?_ ?_
   ·intro hq3
    iterate 4 first | refine go_skip ?_ | refine go_seq ?_ | refine go_block ?_
    refine go_elem_am (xs := atomsL l) (c := c1) (by repeat constructor) (i) (List.getElem?_eq_getElem (by omega)) (fun b5 o5 A5 c5 hA => ?_); cases hA
    refine go_elem_am (xs := atomsL l) (c := c1) (by repeat constructor) (j) (List.getElem?_eq_getElem (by omega)) (fun b6 o6 A6 c6 hA => ?_); cases hA
    refine go_draw ([cl b5 (o5 + i * 2) [.int .u32 (atomsL l)[i].p, .slice A5 (atomsL l)[i].a.length c5], cl b5 (o5 + j * 2) [.int .u32 (atomsL l)[j].p, .slice A6 (atomsL l)[j].a.length c6]]) ([]) [4, 9, 16, 22] (SL.pre [(1, 0), (1, 1), (1, 2), (1, 3), (1, 5), (1, 6), (1, 7), (1, 8), (2, 4), (2, 9), (1, 10), (1, 11), (1, 12), (1, 13), (1, 14), (1, 15), (1, 18), (1, 19), (1, 20), (1, 21), (2, 16), (1, 17), (2, 22), (1, 23), (1, 24), (1, 25)] .nil) mixed rfl (by kernel_rfl) ?_
    iterate 2 refine go_pure1 Tk rfl rfl rfl ?_
    refine go_val1 rfl (idx_val Tk rfl rfl rfl rfl rfl (by omega)) rfl ?_
    iterate 3 refine go_pure1 Tk rfl rfl rfl ?_
    refine go_val1 rfl (idx_val Tk rfl rfl rfl rfl rfl (by omega)) rfl ?_
    iterate 5 first | refine go_pure1 Tk rfl rfl rfl ?_ | refine go_val2a rfl (ldv Tk rfl rfl rfl) rfl ?_
    refine go_known 42 rfl ?_ ?_
    ·intro g1
     (try simp only [decide_eq_true_eq, decide_eq_false_iff_not, Bool.not_eq_true', Bool.not_eq_false', Bool.not_eq_eq_eq_not, Bool.not_true, Bool.not_false, Int.not_lt, Int.not_le, beq_iff_eq, beq_eq_false_iff_ne, ne_eq] at g1)
     iterate 2 refine go_pure1 Tk rfl rfl rfl ?_
     refine go_val1 rfl (idx_val Tk rfl rfl rfl rfl rfl (by omega)) rfl ?_
     iterate 3 refine go_pure1 Tk rfl rfl rfl ?_
     refine go_val1 rfl (idx_val Tk rfl rfl rfl rfl rfl (by omega)) rfl ?_
     iterate 7 first | refine go_pure1 Tk rfl rfl rfl ?_ | refine go_val2a rfl (ldv Tk rfl rfl rfl) rfl ?_
     refine go_nil ?_
     refine go_env [(3, _), (5, _), (6, _), (43, _), (44, _), (45, _), (46, _), (47, _), (48, _), (49, _), (50, _), (51, _), (52, _), (53, _), (54, _), (55, _), (56, _)] ⟨rfl, rfl, rfl, rfl, rfl, rfl, rfl, rfl, rfl, rfl, rfl, rfl, rfl, rfl, rfl, rfl, rfl, trivial⟩ ?_
     refine go_cond rfl ?_ ?_
     ·intro g2
      (try simp only [decide_eq_true_eq, decide_eq_false_iff_not, Bool.not_eq_true', Bool.not_eq_false', Bool.not_eq_eq_eq_not, Bool.not_true, Bool.not_false, Int.not_lt, Int.not_le, beq_iff_eq, beq_eq_false_iff_ne, ne_eq] at g2)
      refine go_seq ?_
      refine go_region rfl ?_
      refine go_pure0 Tk rfl rfl rfl ?_
      refine go_nil ?_
      refine go_env [(2, _)] ⟨rfl, trivial⟩ ?_
      refine go_ret ⟨rfl, rfl⟩ _ _ (res1 (by rfl) (.tmp rfl)) ⟨_, rfl, by first | exact ⟨fun h => (nomatch h), fun h => absurd (h _ (List.getElem_mem (by omega)) _ (List.getElem_mem (by omega)) g1) (by omega)⟩ | exact ⟨fun _ => by rw [List.take_of_length_le (by omega)] at hz; exact hz, fun _ => rfl⟩, rfl, rfl⟩ (by repeat constructor) (by repeat constructor)
     ·intro g2
      (try simp only [decide_eq_true_eq, decide_eq_false_iff_not, Bool.not_eq_true', Bool.not_eq_false', Bool.not_eq_eq_eq_not, Bool.not_true, Bool.not_false, Int.not_lt, Int.not_le, beq_iff_eq, beq_eq_false_iff_ne, ne_eq] at g2)
      refine go_skip ?_
      refine go_blk ?_
      iterate 4 first | refine go_region rfl ?_ | refine go_pure0 Tk rfl rfl rfl ?_
      refine go_nil ?_
      refine go_i64 6 rfl (by omega) (by omega) ?_
      refine go_back (j + 1) ⟨rfl, rfl, rfl, trivial⟩ (by repeat constructor) (by repeat constructor) (⟨by omega, mem_take_next (by omega) hy (fun q => by first | exact absurd q g1 | omega)⟩) (by omega)
    ·intro g1
     (try simp only [decide_eq_true_eq, decide_eq_false_iff_not, Bool.not_eq_true', Bool.not_eq_false', Bool.not_eq_eq_eq_not, Bool.not_true, Bool.not_false, Int.not_lt, Int.not_le, beq_iff_eq, beq_eq_false_iff_ne, ne_eq] at g1)
     iterate 8 refine go_skip1 rfl rfl ?_
     refine go_skip2 rfl (by repeat constructor) (by repeat constructor) rfl ?_
     refine go_skip1 rfl rfl ?_
     refine go_skip2 rfl (by repeat constructor) (by repeat constructor) rfl ?_
     iterate 3 first | refine go_skip1 rfl rfl ?_ | refine go_pure1 Tk rfl rfl rfl ?_
     refine go_nil ?_
     refine go_env [(3, _), (5, _), (6, _), (43, _), (44, _), (45, _), (46, _), (47, _), (48, _), (49, _), (50, _), (51, _), (52, _), (53, _), (54, _), (55, _), (56, _)] ⟨rfl, rfl, rfl, rfl, rfl, rfl, rfl, rfl, rfl, rfl, rfl, rfl, rfl, rfl, rfl, rfl, rfl, trivial⟩ ?_
     refine go_cond_f rfl ?_
     refine go_skip ?_
     refine go_blk ?_
     iterate 4 first | refine go_region rfl ?_ | refine go_pure0 Tk rfl rfl rfl ?_
     refine go_nil ?_
     refine go_i64 6 rfl (by omega) (by omega) ?_
     refine go_back (j + 1) ⟨rfl, rfl, rfl, trivial⟩ (by repeat constructor) (by repeat constructor) (⟨by omega, mem_take_next (by omega) hy (fun q => by first | exact absurd q g1 | omega)⟩) (by omega)
   ·intro hq3
    refine go_exit rfl ?_
    refine go_blk ?_
    iterate 4 first | refine go_region rfl ?_ | refine go_pure0 Tk rfl rfl rfl ?_
    refine go_nil ?_
    refine go_i64 5 rfl (by omega) (by omega) ?_
    refine go_back (i + 1) ⟨rfl, rfl, trivial⟩ (by repeat constructor) (by repeat constructor) (⟨by omega, sameLen_next (by omega) hz (by rw [show j = i from by omega] at hy; exact hy)⟩) (by omega)
  ·intro hq2
   refine go_exit rfl ?_
   refine go_seq ?_
   refine go_region rfl ?_
   refine go_pure0 Tk rfl rfl rfl ?_
   refine go_nil ?_
   refine go_env [(2, _)] ⟨rfl, trivial⟩ ?_
   refine go_ret ⟨rfl, rfl⟩ _ _ (res1 (by rfl) (.tmp rfl)) ⟨_, rfl, by first | exact ⟨fun h => (nomatch h), fun h => absurd (h _ (List.getElem_mem (by omega)) _ (List.getElem_mem (by omega)) g1) (by omega)⟩ | exact ⟨fun _ => by rw [List.take_of_length_le (by omega)] at hz; exact hz, fun _ => rfl⟩, rfl, rfl⟩ (by repeat constructor) (by repeat constructor)

set_option maxHeartbeats 2000000 in
set_option maxRecDepth 20000 in
theorem ref11Right (A : Option Addr) (c : Nat) (l : List Cl) (hb : ∀ x ∈ l, x.b.length ≤ 1000) :
    Spec Tryz.prog 56 #[.slice A l.length c] [sl tCl A c l] [] (fun v Ps' Os' => v = .tuple #[.int .i64 (rightC l).1, .int .i64 (rightC l).2] ∧ Ps' = [] ∧ Os' = []) := by
 refine spec_of (fn := Tryz.f56) (args := [.slice A l.length c]) 35 Tryz.func56 rfl (by kernel_rfl) Tryz.ntmps56 (Nat.le_of_ble_eq_true rfl) (fun w0 hp0 hf0 => ?_)
 iterate 4 first | refine go_seq ?_ | refine go_region rfl ?_ | refine go_pure0 Tk rfl rfl rfl ?_
 refine go_nil ?_
 refine go_env [(0, _)] ⟨rfl, trivial⟩ ?_
 iterate 2 refine go_seq ?_
 refine go_len (xs := l) (by repeat constructor) (fun l0 m0 => ?_)
 iterate 4 first | refine go_region rfl ?_ | refine go_pure0 Tk rfl rfl rfl ?_
 refine go_nil ?_
 refine go_env [(0, _), (7, _)] ⟨rfl, rfl, trivial⟩ ?_
 refine go_condD rfl ?_ ?_
 ·intro h1
  iterate 4 first | refine go_seq ?_ | refine go_region rfl ?_ | refine go_pure0 Tk rfl rfl rfl ?_
  refine go_nil ?_
  refine go_env [(2, _), (3, _)] ⟨rfl, rfl, trivial⟩ ?_
  refine go_ret ⟨rfl, rfl⟩ _ _ (res2 (by rfl) (.tmp rfl) (.tmp rfl)) ⟨by unfold rightC; rw [if_pos (by omega)], rfl, rfl⟩ (by repeat constructor) (by repeat constructor)
 ·intro h1
  iterate 5 first | refine go_skip ?_ | refine go_seq ?_ | refine go_region rfl ?_ | refine go_pure0 Tk rfl rfl rfl ?_
  refine go_nil ?_
  refine go_env [(0, _), (4, _)] ⟨rfl, rfl, trivial⟩ ?_
  refine go_block ?_
  refine go_loop' (X := Nat) (fun k => [(4, .int .i64 (k : Int))]) [(0, _)] (fun _ => []) (fun k => k ≤ l.length ∧ sameLen (atomsL (l.take k)) ∧ LensOf ((l.take k).foldl (fun L c => (clauseL L c).2) (fun _ => none)) (atomsL (l.take k)) ∧ rightF (fun _ => none) l 0 = rightF ((l.take k).foldl (fun L c => (clauseL L c).2) (fun _ => none)) (l.drop k) k) (fun k => l.length - k) (0) ⟨rfl, rfl, trivial⟩ (by repeat constructor) ⟨by omega, by simp [sameLen, atomsL], LensOf.nil, rfl⟩ ?_
  intro k ⟨hk, hs, hL, hz⟩
  iterate 7 first | refine go_seq ?_ | refine go_region rfl ?_ | refine go_pure0 Tk rfl rfl rfl ?_
  refine go_nil ?_
  refine go_env [(0, _), (4, _), (11, _)] ⟨rfl, rfl, rfl, trivial⟩ ?_
  refine go_condD rfl ?_ ?_
  ·intro hq1
   iterate 5 first | refine go_skip ?_ | refine go_seq ?_ | refine go_block ?_
   refine go_elem_cl (xs := l) (by repeat constructor) (k) (List.getElem?_eq_getElem (by omega)) (fun b1 o1 A1 c1 B1 d1 hA => ?_); cases hA
   iterate 3 first | refine go_region rfl ?_ | refine go_pure0 Tk rfl rfl rfl ?_
   refine go_val0 rfl (idx_val Tk rfl rfl rfl rfl rfl (by omega)) rfl ?_
   refine go_val0 rfl (ldv Tk rfl rfl rfl) rfl ?_
   refine go_call (ref05May l[k] A1 c1 B1 d1) rfl rfl (by rfl) rfl (by repeat constructor) (by repeat constructor) (fun h => nomatch h) ?_
   rintro _ _ _ ⟨rfl, rfl, rfl⟩
   refine go_pure0 Tk rfl rfl rfl ?_
   refine go_nil ?_
   refine go_env [(0, _), (4, _), (19, _)] ⟨rfl, rfl, rfl, trivial⟩ ?_
   refine go_cond rfl ?_ ?_
   ·intro g1
    (try simp only [decide_eq_true_eq, decide_eq_false_iff_not, Bool.not_eq_true', Bool.not_eq_false', Bool.not_eq_eq_eq_not, Bool.not_true, Bool.not_false, Int.not_lt, Int.not_le, beq_iff_eq, beq_eq_false_iff_ne, ne_eq] at g1)
    iterate 5 first | refine go_seq ?_ | refine go_region rfl ?_ | refine go_pure0 Tk rfl rfl rfl ?_
    refine go_nil ?_
    refine go_env [(2, _), (3, _)] ⟨rfl, rfl, trivial⟩ ?_
    refine go_ret ⟨rfl, rfl⟩ _ _ (res2 (by rfl) (.tmp rfl) (.tmp rfl)) ⟨by unfold rightC; rw [if_neg (by omega), hz, right_bad (by omega) (by rw [show badC ((l.take k).foldl (fun L c => (clauseL L c).2) (fun _ => none)) l[k] = 8 by unfold badC; rw [if_pos g1]]; decide), show badC ((l.take k).foldl (fun L c => (clauseL L c).2) (fun _ => none)) l[k] = 8 by unfold badC; rw [if_pos g1]], rfl, rfl⟩ (by repeat constructor) (by repeat constructor)
   ·intro g1
    (try simp only [decide_eq_true_eq, decide_eq_false_iff_not, Bool.not_eq_true', Bool.not_eq_false', Bool.not_eq_eq_eq_not, Bool.not_true, Bool.not_false, Int.not_lt, Int.not_le, beq_iff_eq, beq_eq_false_iff_ne, ne_eq] at g1)
    iterate 6 first | refine go_skip ?_ | refine go_seq ?_ | refine go_region rfl ?_ | refine go_pure0 Tk rfl rfl rfl ?_
    refine go_val0 rfl (idx_val Tk rfl rfl rfl rfl rfl (by omega)) rfl ?_
    refine go_val0 rfl (ldv Tk rfl rfl rfl) rfl ?_
    refine go_call (ref11Safe l[k] A1 c1 B1 d1) rfl rfl (by rfl) rfl (by repeat constructor) (by repeat constructor) (fun h => nomatch h) ?_
    rintro _ _ _ ⟨rfl, rfl, rfl⟩
    refine go_pure0 Tk rfl rfl rfl ?_
    refine go_nil ?_
    refine go_env [(0, _), (4, _), (26, _)] ⟨rfl, rfl, rfl, trivial⟩ ?_
    refine go_cond rfl ?_ ?_
    ·intro g2
     (try simp only [decide_eq_true_eq, decide_eq_false_iff_not, Bool.not_eq_true', Bool.not_eq_false', Bool.not_eq_eq_eq_not, Bool.not_true, Bool.not_false, Int.not_lt, Int.not_le, beq_iff_eq, beq_eq_false_iff_ne, ne_eq] at g2)
     iterate 5 first | refine go_seq ?_ | refine go_region rfl ?_ | refine go_pure0 Tk rfl rfl rfl ?_
     refine go_nil ?_
     refine go_env [(2, _), (3, _)] ⟨rfl, rfl, trivial⟩ ?_
     refine go_ret ⟨rfl, rfl⟩ _ _ (res2 (by rfl) (.tmp rfl) (.tmp rfl)) ⟨by unfold rightC; rw [if_neg (by omega), hz, right_bad (by omega) (by rw [show badC ((l.take k).foldl (fun L c => (clauseL L c).2) (fun _ => none)) l[k] = 10 by unfold badC; rw [if_neg (by rw [g1]; decide), if_pos g2]]; decide), show badC ((l.take k).foldl (fun L c => (clauseL L c).2) (fun _ => none)) l[k] = 10 by unfold badC; rw [if_neg (by rw [g1]; decide), if_pos g2]], rfl, rfl⟩ (by repeat constructor) (by repeat constructor)
    ·intro g2
     (try simp only [decide_eq_true_eq, decide_eq_false_iff_not, Bool.not_eq_true', Bool.not_eq_false', Bool.not_eq_eq_eq_not, Bool.not_true, Bool.not_false, Int.not_lt, Int.not_le, beq_iff_eq, beq_eq_false_iff_ne, ne_eq] at g2)
     refine go_skip ?_
     refine go_seq ?_
     refine go_sl (sl tCl (some ⟨b1, o1, none⟩) c l) (sl tCl (some ⟨b1, o1, none⟩) c (l.take (k + 1))) (by repeat constructor) (fun _ hs => Sl.pre hs (k + 1)) ?_
     have htl : (l.take (k + 1)).length = k + 1 := by rw [List.length_take]; omega
     iterate 4 first | refine go_region rfl ?_ | refine go_pure0 Tk rfl rfl rfl ?_
     refine go_i64 30 rfl (by omega) (by omega) ?_
     refine go_re 30 (.int .i64 ((k + 1 : Nat) : Int)) (by rfl) ?_
     refine go_val0 rfl (slice_val' Tk rfl rfl rfl rfl 0 (k + 1) c (.slice (some ⟨b1, o1, none⟩) (l.take (k + 1)).length c) (by first | rfl | exact ⟨_, rfl⟩ | exact ⟨rfl, rfl⟩) (by first | rfl | exact ⟨_, rfl⟩ | exact ⟨rfl, rfl⟩) (by first | rfl | exact ⟨_, rfl⟩ | exact ⟨rfl, rfl⟩) (by omega) (by omega) (by omega) (by rw [sub0, htl]; rfl)) rfl ?_
     refine go_call (ref11lengths (some ⟨b1, o1, none⟩) c (l.take (k + 1)) (by omega) (fun x hx => hb x (List.mem_of_mem_take hx))) rfl rfl (by rfl) rfl (by repeat constructor) (by repeat constructor) (fun h => nomatch h) ?_
     rintro _ _ _ ⟨r, rfl, hr, rfl, rfl⟩
     refine go_pure0 Tk rfl rfl rfl ?_
     refine go_nil ?_
     refine go_env [(0, _), (4, _), (33, _)] ⟨rfl, rfl, rfl, trivial⟩ ?_
     refine go_cond rfl ?_ ?_
     ·intro g3
      (try simp only [decide_eq_true_eq, decide_eq_false_iff_not, Bool.not_eq_true', Bool.not_eq_false', Bool.not_eq_eq_eq_not, Bool.not_true, Bool.not_false, Int.not_lt, Int.not_le, beq_iff_eq, beq_eq_false_iff_ne, ne_eq] at g3)
      have g4 : (clauseL ((l.take k).foldl (fun L c => (clauseL L c).2) (fun _ => none)) l[k]).1 = false := Bool.eq_false_iff.2 (fun e => absurd (g3.symm.trans (hr.2 (by rw [atomsL_next (by omega)]; exact (lens_all hL hs l[k]).1 e))) (by decide))
      iterate 5 first | refine go_seq ?_ | refine go_region rfl ?_ | refine go_pure0 Tk rfl rfl rfl ?_
      refine go_nil ?_
      refine go_env [(2, _), (3, _)] ⟨rfl, rfl, trivial⟩ ?_
      refine go_ret ⟨rfl, rfl⟩ _ _ (res2 (by rfl) (.tmp rfl) (.tmp rfl)) ⟨by unfold rightC; rw [if_neg (by omega), hz, right_bad (by omega) (by rw [show badC ((l.take k).foldl (fun L c => (clauseL L c).2) (fun _ => none)) l[k] = 9 by unfold badC; rw [if_neg (by rw [g1]; decide), if_neg (by rw [g2]; decide), if_pos g4]]; decide), show badC ((l.take k).foldl (fun L c => (clauseL L c).2) (fun _ => none)) l[k] = 9 by unfold badC; rw [if_neg (by rw [g1]; decide), if_neg (by rw [g2]; decide), if_pos g4]], rfl, rfl⟩ (by repeat constructor) (by repeat constructor)
     ·intro g3
      (try simp only [decide_eq_true_eq, decide_eq_false_iff_not, Bool.not_eq_true', Bool.not_eq_false', Bool.not_eq_eq_eq_not, Bool.not_true, Bool.not_false, Int.not_lt, Int.not_le, beq_iff_eq, beq_eq_false_iff_ne, ne_eq] at g3)
      have g4 : (clauseL ((l.take k).foldl (fun L c => (clauseL L c).2) (fun _ => none)) l[k]).1 = true := (lens_all hL hs l[k]).2 (by rw [← atomsL_next (by omega)]; exact hr.1 g3)
      refine go_skip ?_
      refine go_blk ?_
      iterate 4 first | refine go_region rfl ?_ | refine go_pure0 Tk rfl rfl rfl ?_
      refine go_nil ?_
      refine go_i64 4 rfl (by omega) (by omega) ?_
      refine go_back (k + 1) ⟨rfl, rfl, trivial⟩ (by repeat constructor) (by repeat constructor) ⟨by omega, by rw [atomsL_next (by omega)]; exact (lens_all hL hs l[k]).1 g4, by rw [fold_next (by omega), atomsL_next (by omega)]; exact hL.clause l[k], by rw [fold_next (by omega)]; exact hz.trans (right_ok (by omega) (by unfold badC; rw [if_neg (by rw [g1]; decide), if_neg (by rw [g2]; decide), if_neg (by rw [g4]; decide)]))⟩ (by omega)
  ·intro hq1
   iterate 5 first | refine go_exit rfl ?_ | refine go_seq ?_ | refine go_region rfl ?_ | refine go_pure0 Tk rfl rfl rfl ?_
   refine go_nil ?_
   refine go_env [(2, _), (3, _)] ⟨rfl, rfl, trivial⟩ ?_
   refine go_ret ⟨rfl, rfl⟩ _ _ (res2 (by rfl) (.tmp rfl) (.tmp rfl)) ⟨by unfold rightC; rw [if_neg (by omega), hz, List.drop_eq_nil_of_le (by omega)]; rfl, rfl, rfl⟩ (by repeat constructor) (by repeat constructor)

end Go.Proofs.YtkhddfknpegpmaaGreat.SL

/- Contracts of functions of the program (Reffa): what each call comes to, for the laws' proofs. -/
set_option linter.unusedVariables false
set_option linter.unusedSimpArgs false
namespace Go.Proofs.YtkhddfknpegpmaaGreat.SL
open Go 

set_option maxHeartbeats 2000000 in
set_option maxRecDepth 20000 in
theorem ref13right (c : Cl) (CA : Option Addr) (cc : Nat) (CB : Option Addr) (cd : Nat) (hb : c.b.length ≤ 1000) :
    Spec Tryz.prog 34 #[.agg #[.int .u32 c.h.p, .slice CA c.h.a.length cc, .slice CB c.b.length cd]] [sl tTm CA cc c.h.a, sl tLi CB cd c.b] [] (fun v Ps' Os' => v = .bool (decide ((rightC [c]).2 = 0)) ∧ Ps' = [] ∧ Os' = []) := by
 refine spec_of (fn := Tryz.f34) (args := [.agg #[.int .u32 c.h.p, .slice CA c.h.a.length cc, .slice CB c.b.length cd]]) 13 Tryz.func34 rfl (by kernel_rfl) Tryz.ntmps34 (Nat.le_of_ble_eq_true rfl) (fun w0 hp0 hf0 => ?_)
 refine go_seq ?_
 refine go_region rfl ?_
 refine go_box Tk rfl rfl rfl rfl (by rfl) rfl rfl (fun h => nomatch h) ?_
 intro bC
 refine go_pure0 Tk rfl rfl rfl ?_
 refine go_nil ?_
 refine go_freeze_pt (b := bC) (by repeat constructor) ?_
 refine go_env [(1, _)] ⟨rfl, trivial⟩ ?_
 refine go_seq ?_
 refine go_region rfl ?_
 refine go_val0 rfl (ldv Tk rfl rfl rfl) rfl ?_
 refine go_bslice Tk rfl rfl rfl rfl rfl rfl rfl rfl (fun h => nomatch h) ?_
 intro bs
 refine go_lit tCl (b := bs) [c] (by repeat constructor) (fun hp a => ⟨[.int .u32 c.h.p, .slice CA c.h.a.length cc, .slice CB c.b.length cd], [], rfl, tCl_mk (a (sl tTm CA cc c.h.a) (by repeat constructor)) (a (sl tLi CB cd c.b) (by repeat constructor)), rfl⟩) (by simp) ?_
 refine go_call (ref11Right (some ⟨bs, 0, none⟩) 1 [c] (fun x hx => by rw [List.mem_singleton] at hx; subst hx; exact hb)) rfl rfl (by rfl) rfl (by repeat constructor) (by repeat constructor) (fun h => nomatch h) ?_
 rintro _ _ _ ⟨rfl, rfl, rfl⟩
 iterate 5 refine go_pure0 Tk rfl rfl rfl ?_
 refine go_nil ?_
 refine go_env [(4, _)] ⟨rfl, trivial⟩ ?_
 iterate 5 first | refine go_seq ?_ | refine go_region rfl ?_ | refine go_pure0 Tk rfl rfl rfl ?_
 refine go_nil ?_
 refine go_env [(2, _)] ⟨rfl, trivial⟩ ?_
 refine go_ret ⟨rfl, rfl⟩ _ _ (res1 (by rfl) (.tmp rfl)) ⟨rfl, rfl, rfl⟩ (by repeat constructor) (by repeat constructor)

set_option maxHeartbeats 2000000 in
set_option maxRecDepth 20000 in
theorem ref13Fact (few : List Int) (is : List Bool) (hf : few.length = 16) (hi : is.length = 16) (a : Am) (AA : Option Addr) (ac : Nat) (hn : a.a.length ≤ 1000000) (hv : ∀ t ∈ a.a, t.v = true → 0 ≤ t.n ∧ t.n < 16) :
    Spec Tryz.prog 57 #[.agg (hc (few) (is) []).toArray, .agg #[.int .u32 a.p, .slice AA a.a.length ac]] [sl tTm AA ac a.a] [] (fun v Ps' Os' => ∃ A k, v = .agg #[.int .u32 (refF few a).p, .slice A (refF few a).a.length k] ∧ Ps' = [sl tU A k (refF few a).a] ∧ Os' = []) := by
 refine spec_of (fn := Tryz.f57) (args := [.agg (hc (few) (is) []).toArray, .agg #[.int .u32 a.p, .slice AA a.a.length ac]]) 41 Tryz.func57 rfl (by kernel_rfl) Tryz.ntmps57 (Nat.le_of_ble_eq_true rfl) (fun w0 hp0 hf0 => ?_)
 refine go_seq ?_
 refine go_region rfl ?_
 refine go_box (cs := hc few is []) Tk rfl rfl rfl rfl (takeL_len (hc_len hf hi)) (beq_of (hc_len hf hi)) rfl (fun h => nomatch h) ?_
 intro bH
 refine go_box Tk rfl rfl rfl rfl (by rfl) rfl rfl (fun h => nomatch h) ?_
 intro bA
 refine go_alloc Tk rfl rfl rfl (by rfl) rfl rfl (fun h => nomatch h) ?_
 intro bR
 refine go_nil ?_
 refine go_freeze_pt (b := bH) (by repeat constructor) ?_
 refine go_freeze_pt (b := bA) (by repeat constructor) ?_
 refine go_env [(2, _), (3, _), (4, _)] ⟨rfl, rfl, rfl, trivial⟩ ?_
 refine go_seq ?_
 refine go_region rfl ?_
 refine go_pure0 Tk rfl rfl rfl ?_
 refine go_val0 rfl (ldv Tk rfl rfl rfl) rfl ?_
 refine go_val0 rfl (fun a w hp ho hf hs => build_val Tk rfl rfl rfl (by rfl) a w hf) rfl ?_
 refine go_alloc Tk rfl rfl rfl (by rfl) rfl rfl (fun h => nomatch h) ?_
 intro bO
 refine go_store Tk rfl rfl rfl rfl rfl rfl (by repeat constructor) rfl rfl (by rfl) (fun h => nomatch h) ?_
 refine go_nil ?_
 refine go_env [(2, _), (3, _), (4, _), (5, _)] ⟨rfl, rfl, rfl, rfl, trivial⟩ ?_
 iterate 2 refine go_seq ?_
 refine go_len (xs := a.a) (by repeat constructor) (fun l0 m0 => ?_)
 refine go_own_nil tU 22 none ?_
 refine go_same (A := ol tU 22 none 0 []) (B := ol tU 22 none 0 ((a.a.take 0).map (refT few))) (by repeat constructor) rfl ?_
 refine go_region rfl ?_
 refine go_pure0 Tk rfl rfl rfl ?_
 refine go_nil ?_
 refine go_env [(2, _), (3, _), (4, _), (5, _), (6, _)] ⟨rfl, rfl, rfl, rfl, rfl, trivial⟩ ?_
 refine go_block ?_
 refine go_loop' (X := Nat × Option Addr × Nat) (fun x => [(6, .int .i64 (x.1 : Int))]) [(2, _), (3, _), (4, _), (5, _)] (fun x => [pt bO 52 [.int .u32 a.p, .slice x.2.1 ((a.a.take x.1).map (refT few)).length x.2.2], ol tU 22 x.2.1 x.2.2 ((a.a.take x.1).map (refT few))]) (fun x => x.1 ≤ a.a.length) (fun x => a.a.length - x.1) ((0, none, 0)) ⟨rfl, rfl, rfl, rfl, rfl, trivial⟩ (by repeat constructor) (by omega) ?_
 intro ⟨k, A1, c1⟩ hk
 simp only at hk ⊢
 have hkl : ((a.a.take k).map (refT few)).length = k := by simp; omega
 iterate 8 first | refine go_seq ?_ | refine go_region rfl ?_ | refine go_pure0 Tk rfl rfl rfl ?_ | refine go_val0 rfl (ldv Tk rfl rfl rfl) rfl ?_
 refine go_nil ?_
 refine go_env [(2, _), (3, _), (4, _), (5, _), (6, _), (15, _)] ⟨rfl, rfl, rfl, rfl, rfl, rfl, trivial⟩ ?_
 refine go_condD rfl ?_ ?_
 ·intro hq1
  iterate 4 first | refine go_skip ?_ | refine go_seq ?_ | refine go_block ?_
  refine go_elem_tm (xs := a.a) (by repeat constructor) (k) (List.getElem?_eq_getElem (by omega)) (fun b1 o1 hA => ?_); cases hA
  iterate 4 first | refine go_region rfl ?_ | refine go_pure0 Tk rfl rfl rfl ?_ | refine go_val0 rfl (ldv Tk rfl rfl rfl) rfl ?_
  refine go_val0 rfl (idx_val Tk rfl rfl rfl rfl rfl (by omega)) rfl ?_
  iterate 3 first | refine go_pure0 Tk rfl rfl rfl ?_ | refine go_val0 rfl (ldv Tk rfl rfl rfl) rfl ?_
  refine go_nil ?_
  refine go_env [(2, _), (3, _), (4, _), (5, _), (6, _), (7, _)] ⟨rfl, rfl, rfl, rfl, rfl, rfl, trivial⟩ ?_
  iterate 6 first | refine go_seq ?_ | refine go_region rfl ?_ | refine go_pure0 Tk rfl rfl rfl ?_ | refine go_val0 rfl (ldv Tk rfl rfl rfl) rfl ?_
  refine go_val0 rfl (idx_val Tk rfl rfl rfl rfl rfl (by omega)) rfl ?_
  refine go_pure0 Tk rfl rfl rfl ?_
  refine go_val0 rfl (ldv Tk rfl rfl rfl) rfl ?_
  refine go_nil ?_
  refine go_env [(2, _), (3, _), (4, _), (5, _), (6, _), (7, _), (29, _)] ⟨rfl, rfl, rfl, rfl, rfl, rfl, rfl, trivial⟩ ?_
  refine go_cond rfl ?_ ?_
  ·intro g1
   (try simp only [decide_eq_true_eq, decide_eq_false_iff_not, Bool.not_eq_true', Bool.not_eq_false', Bool.not_eq_eq_eq_not, Bool.not_true, Bool.not_false, Int.not_lt, Int.not_le, beq_iff_eq, beq_eq_false_iff_ne, ne_eq] at g1)
   obtain ⟨j, hj, hj16⟩ : ∃ j : Nat, a.a[k].n = (j : Int) ∧ j < 16 := ⟨a.a[k].n.toNat, by have := hv _ (List.getElem_mem _) g1; omega, by have := hv _ (List.getElem_mem _) g1; omega⟩
   refine go_region rfl ?_
   refine go_pure0 Tk rfl rfl rfl ?_
   refine go_re 30 (.int .u32 (j : Int)) (by show some (Value.int _ _) = _; rw [hj]) ?_
   refine go_pure0 Tk rfl rfl rfl ?_
   refine go_val0 rfl (idxA_val Tk rfl rfl rfl rfl rfl (by omega)) rfl ?_
   refine go_val0 rfl (load_val (cs := [.int .u32 few[j]]) Tk rfl rfl rfl (at_cl1 (by repeat constructor) j (by show 0 + 0 + j * 1 = _; omega) (hc_few (by omega) rfl)) rfl) rfl ?_
   refine go_pure0 Tk rfl rfl rfl ?_
   refine go_re 7 (.int .u32 (refT few a.a[k])) (by show some (Value.int _ _) = _; rw [show refT few a.a[k] = few[j] from by unfold refT; rw [if_pos g1, hj, Int.toNat_natCast, List.getElem?_eq_getElem (by omega)]; rfl]) ?_
   refine go_nil ?_
   refine go_env [(2, _), (3, _), (4, _), (5, _), (6, _), (7, _)] ⟨rfl, rfl, rfl, rfl, rfl, rfl, trivial⟩ ?_
   refine go_re 7 (.int .u32 (refT few a.a[k])) (by show some (Value.int _ _) = _; first | rfl | rw [show refT few a.a[k] = a.a[k].n from by unfold refT; rw [if_neg (by rw [g1]; decide)]]) ?_
   iterate 4 first | refine go_region rfl ?_ | refine go_pure0 Tk rfl rfl rfl ?_ | refine go_val0 rfl (ldv Tk rfl rfl rfl) rfl ?_
   refine go_bslice Tk rfl rfl rfl rfl rfl rfl rfl rfl (fun h => nomatch h) ?_
   intro b1
   refine go_append1 (T := tU) (xs := ((a.a.take k).map (refT few))) Tk (refT few a.a[k]) rfl rfl rfl rfl rfl rfl rfl rfl rfl (by repeat constructor) (by repeat constructor) rfl ent_int (by omega) (by first | exact (fun _ _ _ => satA) | exact (fun h => nomatch h) | exact (fun h => nomatch (Eq.symm h).trans (show _ = false by kernel_rfl))) ?_
   intro A3 c3
   refine go_pure0 Tk rfl rfl rfl ?_
   refine go_store Tk rfl rfl rfl rfl rfl rfl (by repeat constructor) rfl rfl (by rfl) (fun h => nomatch h) ?_
   refine go_nil ?_
   refine go_env [(2, _), (3, _), (4, _), (5, _), (6, _)] ⟨rfl, rfl, rfl, rfl, rfl, trivial⟩ ?_
   refine go_blk ?_
   iterate 4 first | refine go_region rfl ?_ | refine go_pure0 Tk rfl rfl rfl ?_
   refine go_nil ?_
   refine go_i64 6 rfl (by omega) (by omega) ?_
   rw [show ((a.a.take k).map (refT few)) ++ [_] = (a.a.take (k + 1)).map (refT few) from by rw [List.take_succ_eq_append_getElem (by omega), List.map_append, List.map_cons]; rfl]
   refine go_back (k + 1, A3, c3) ⟨rfl, rfl, rfl, rfl, rfl, trivial⟩ (by repeat constructor) (by repeat constructor) (by show k + 1 ≤ _; omega) (by show a.a.length - (k + 1) < a.a.length - k; omega)
  ·intro g1
   (try simp only [decide_eq_true_eq, decide_eq_false_iff_not, Bool.not_eq_true', Bool.not_eq_false', Bool.not_eq_eq_eq_not, Bool.not_true, Bool.not_false, Int.not_lt, Int.not_le, beq_iff_eq, beq_eq_false_iff_ne, ne_eq] at g1)
   refine go_skip ?_
   refine go_re 7 (.int .u32 (refT few a.a[k])) (by show some (Value.int _ _) = _; first | rfl | rw [show refT few a.a[k] = a.a[k].n from by unfold refT; rw [if_neg (by rw [g1]; decide)]]) ?_
   iterate 4 first | refine go_region rfl ?_ | refine go_pure0 Tk rfl rfl rfl ?_ | refine go_val0 rfl (ldv Tk rfl rfl rfl) rfl ?_
   refine go_bslice Tk rfl rfl rfl rfl rfl rfl rfl rfl (fun h => nomatch h) ?_
   intro b2
   refine go_append1 (T := tU) (xs := ((a.a.take k).map (refT few))) Tk (refT few a.a[k]) rfl rfl rfl rfl rfl rfl rfl rfl rfl (by repeat constructor) (by repeat constructor) rfl ent_int (by omega) (by first | exact (fun _ _ _ => satA) | exact (fun h => nomatch h) | exact (fun h => nomatch (Eq.symm h).trans (show _ = false by kernel_rfl))) ?_
   intro A3 c3
   refine go_pure0 Tk rfl rfl rfl ?_
   refine go_store Tk rfl rfl rfl rfl rfl rfl (by repeat constructor) rfl rfl (by rfl) (fun h => nomatch h) ?_
   refine go_nil ?_
   refine go_env [(2, _), (3, _), (4, _), (5, _), (6, _)] ⟨rfl, rfl, rfl, rfl, rfl, trivial⟩ ?_
   refine go_blk ?_
   iterate 4 first | refine go_region rfl ?_ | refine go_pure0 Tk rfl rfl rfl ?_
   refine go_nil ?_
   refine go_i64 6 rfl (by omega) (by omega) ?_
   rw [show ((a.a.take k).map (refT few)) ++ [_] = (a.a.take (k + 1)).map (refT few) from by rw [List.take_succ_eq_append_getElem (by omega), List.map_append, List.map_cons]; rfl]
   refine go_back (k + 1, A3, c3) ⟨rfl, rfl, rfl, rfl, rfl, trivial⟩ (by repeat constructor) (by repeat constructor) (by show k + 1 ≤ _; omega) (by show a.a.length - (k + 1) < a.a.length - k; omega)
 ·intro hq1
  refine go_exit rfl ?_
  refine go_seq ?_
  have htk : a.a.take k = a.a := List.take_of_length_le (by omega)
  rw [htk]
  refine go_freeze_ol (xs := a.a.map (refT few)) (by repeat constructor) ?_
  refine go_region rfl ?_
  refine go_val0 rfl (ldv Tk rfl rfl rfl) rfl ?_
  refine go_store Tk rfl rfl rfl rfl rfl rfl (by repeat constructor) rfl rfl (by rfl) (fun h => nomatch h) ?_
  refine go_nil ?_
  refine go_env [(4, _)] ⟨rfl, trivial⟩ ?_
  refine go_ret ⟨rfl, rfl⟩ _ _ (res1 (by rfl) (.cell rfl (rdv Tk rfl))) ⟨A1, c1, rfl, rfl, rfl⟩ (by repeat constructor) (by repeat constructor)

set_option maxHeartbeats 2000000 in
set_option maxRecDepth 20000 in
theorem ref13meet (few : List Int) (is : List Bool) (hf : few.length = 16) (hi : is.length = 16) (a : Am) (AA : Option Addr) (ac : Nat) (f : Fa) (FA : Option Addr) (fc : Nat) (hv : vok a) :
    Spec Tryz.prog 58 #[.agg (hc (few) (is) []).toArray, .agg #[.int .u32 a.p, .slice AA a.a.length ac], .agg #[.int .u32 f.p, .slice FA f.a.length fc]] [sl tTm AA ac a.a, sl tU FA fc f.a] [] (fun v Ps' Os' => ∃ ch : Ch, v = .tuple #[.agg (hc ch.1 ch.2 []).toArray, .bool (mtch (putA few is a) f)] ∧ ch.ok ∧ (mtch (putA few is a) f = true → ch = meetL f.a (few, is) a.a 0) ∧ Ps' = [] ∧ Os' = []) := by
 refine spec_of (fn := Tryz.f58) (args := [.agg (hc (few) (is) []).toArray, .agg #[.int .u32 a.p, .slice AA a.a.length ac], .agg #[.int .u32 f.p, .slice FA f.a.length fc]]) 82 Tryz.func58 rfl (by kernel_rfl) Tryz.ntmps58 (Nat.le_of_ble_eq_true rfl) (fun w0 hp0 hf0 => ?_)
 refine go_seq ?_
 refine go_region rfl ?_
 refine go_box (cs := hc few is []) Tk rfl rfl rfl rfl (takeL_len (hc_len hf hi)) (beq_of (hc_len hf hi)) rfl (fun h => nomatch h) ?_
 intro bC
 refine go_box Tk rfl rfl rfl rfl (by rfl) rfl rfl (fun h => nomatch h) ?_
 intro bA
 refine go_box Tk rfl rfl rfl rfl (by rfl) rfl rfl (fun h => nomatch h) ?_
 intro bF
 refine go_alloc Tk rfl rfl rfl (by rfl) rfl rfl (fun h => nomatch h) ?_
 intro bR
 refine go_pure0 Tk rfl rfl rfl ?_
 refine go_nil ?_
 refine go_freeze_pt (b := bA) (by repeat constructor) ?_
 refine go_freeze_pt (b := bF) (by repeat constructor) ?_
 refine go_env [(3, _), (4, _), (5, _), (6, _)] ⟨rfl, rfl, rfl, rfl, trivial⟩ ?_
 iterate 2 refine go_seq ?_
 refine go_len (xs := a.a) (by repeat constructor) (fun l0 m0 => ?_)
 refine go_len (xs := f.a) (by repeat constructor) (fun l1 m1 => ?_)
 iterate 7 first | refine go_region rfl ?_ | refine go_pure0 Tk rfl rfl rfl ?_ | refine go_val0 rfl (ldv Tk rfl rfl rfl) rfl ?_
 refine go_known 15 rfl ?_ ?_
 ·intro g1
  (try simp only [decide_eq_true_eq, decide_eq_false_iff_not, Bool.not_eq_true', Bool.not_eq_false', Bool.not_eq_eq_eq_not, Bool.not_true, Bool.not_false, Int.not_lt, Int.not_le, beq_iff_eq, beq_eq_false_iff_ne, ne_eq] at g1)
  have hmt : mtch (putA few is a) f = false := mtch_shape (c := (few, is)) (.inl g1)
  iterate 8 first | refine go_skip0 rfl rfl ?_ | refine go_pure0 Tk rfl rfl rfl ?_
  refine go_nil ?_
  refine go_env [(3, _), (4, _), (5, _), (6, _), (23, _)] ⟨rfl, rfl, rfl, rfl, rfl, trivial⟩ ?_
  refine go_cond_t rfl ?_
  refine go_seq ?_
  refine go_region rfl ?_
  refine go_val0 rfl (load_val (cs := hc few is []) Tk rfl rfl rfl (at_all (by repeat constructor) (hc_len hf hi)) rfl) rfl ?_
  refine go_store (cs' := hc few is []) Tk rfl rfl rfl rfl rfl rfl (by repeat constructor) (beq_of (hc_len hf hi)) (hc_one _ _) (putL_whole (by rw [show (cellsL (.agg (hc few is []).toArray)).length = 32 from hc_len hf hi]; rfl)) (fun h => nomatch h) ?_
  refine go_pure0 Tk rfl rfl rfl ?_
  refine go_nil ?_
  refine go_env [(6, _), (7, _)] ⟨rfl, rfl, trivial⟩ ?_
  refine go_ret ⟨rfl, rfl⟩ _ _ (res2 (by rfl) (.cell rfl (reads_at Tk rfl (at_all (by repeat constructor) (by first | exact hc_len hf hi | exact hc_len hf1 hi1)) (by rfl))) (.tmp rfl)) ((by first | exact ⟨(few, is), congrArg (fun b => Value.tuple #[.agg (hc few is []).toArray, .bool b]) hmt.symm, ⟨hf, hi⟩, fun q => absurd (hmt.symm.trans q) (by decide), rfl, rfl⟩ | exact ⟨(f1, i1), congrArg (fun b => Value.tuple #[.agg (hc f1 i1 []).toArray, .bool b]) hmt.symm, ⟨hf1, hi1⟩, fun q => absurd (hmt.symm.trans q) (by decide), rfl, rfl⟩ | exact ⟨(f1, i1), congrArg (fun b => Value.tuple #[.agg (hc f1 i1 []).toArray, .bool b]) (soFar.end_ (c0 := (few, is)) (c := (f1, i1)) hv (by rw [show a.a.length = k from by omega]; exact hsf) (by omega) hln).symm, ⟨hf1, hi1⟩, fun _ => by rw [hz, List.drop_eq_nil_of_le (by omega)]; rfl, rfl, rfl⟩)) (by repeat constructor) (by repeat constructor)
 ·intro g1
  (try simp only [decide_eq_true_eq, decide_eq_false_iff_not, Bool.not_eq_true', Bool.not_eq_false', Bool.not_eq_eq_eq_not, Bool.not_true, Bool.not_false, Int.not_lt, Int.not_le, beq_iff_eq, beq_eq_false_iff_ne, ne_eq] at g1)
  iterate 8 first | refine go_pure0 Tk rfl rfl rfl ?_ | refine go_val0 rfl (ldv Tk rfl rfl rfl) rfl ?_
  refine go_nil ?_
  refine go_env [(3, _), (4, _), (5, _), (6, _), (23, _)] ⟨rfl, rfl, rfl, rfl, rfl, trivial⟩ ?_
  refine go_cond rfl ?_ ?_
  ·intro g2
   (try simp only [decide_eq_true_eq, decide_eq_false_iff_not, Bool.not_eq_true', Bool.not_eq_false', Bool.not_eq_eq_eq_not, Bool.not_true, Bool.not_false, Int.not_lt, Int.not_le, beq_iff_eq, beq_eq_false_iff_ne, ne_eq] at g2)
   have hmt : mtch (putA few is a) f = false := mtch_shape (c := (few, is)) (by first | exact .inl g1 | exact .inr (by omega))
   refine go_seq ?_
   refine go_region rfl ?_
   refine go_val0 rfl (load_val (cs := hc few is []) Tk rfl rfl rfl (at_all (by repeat constructor) (hc_len hf hi)) rfl) rfl ?_
   refine go_store (cs' := hc few is []) Tk rfl rfl rfl rfl rfl rfl (by repeat constructor) (beq_of (hc_len hf hi)) (hc_one _ _) (putL_whole (by rw [show (cellsL (.agg (hc few is []).toArray)).length = 32 from hc_len hf hi]; rfl)) (fun h => nomatch h) ?_
   refine go_pure0 Tk rfl rfl rfl ?_
   refine go_nil ?_
   refine go_env [(6, _), (7, _)] ⟨rfl, rfl, trivial⟩ ?_
   refine go_ret ⟨rfl, rfl⟩ _ _ (res2 (by rfl) (.cell rfl (reads_at Tk rfl (at_all (by repeat constructor) (by first | exact hc_len hf hi | exact hc_len hf1 hi1)) (by rfl))) (.tmp rfl)) ((by first | exact ⟨(few, is), congrArg (fun b => Value.tuple #[.agg (hc few is []).toArray, .bool b]) hmt.symm, ⟨hf, hi⟩, fun q => absurd (hmt.symm.trans q) (by decide), rfl, rfl⟩ | exact ⟨(f1, i1), congrArg (fun b => Value.tuple #[.agg (hc f1 i1 []).toArray, .bool b]) hmt.symm, ⟨hf1, hi1⟩, fun q => absurd (hmt.symm.trans q) (by decide), rfl, rfl⟩ | exact ⟨(f1, i1), congrArg (fun b => Value.tuple #[.agg (hc f1 i1 []).toArray, .bool b]) (soFar.end_ (c0 := (few, is)) (c := (f1, i1)) hv (by rw [show a.a.length = k from by omega]; exact hsf) (by omega) hln).symm, ⟨hf1, hi1⟩, fun _ => by rw [hz, List.drop_eq_nil_of_le (by omega)]; rfl, rfl, rfl⟩)) (by repeat constructor) (by repeat constructor)
  ·intro g2
   (try simp only [decide_eq_true_eq, decide_eq_false_iff_not, Bool.not_eq_true', Bool.not_eq_false', Bool.not_eq_eq_eq_not, Bool.not_true, Bool.not_false, Int.not_lt, Int.not_le, beq_iff_eq, beq_eq_false_iff_ne, ne_eq] at g2)
   have hln : a.a.length = f.a.length := by omega
   iterate 5 first | refine go_skip ?_ | refine go_seq ?_ | refine go_region rfl ?_ | refine go_pure0 Tk rfl rfl rfl ?_
   refine go_nil ?_
   refine go_env [(3, _), (4, _), (5, _), (6, _), (8, _)] ⟨rfl, rfl, rfl, rfl, rfl, trivial⟩ ?_
   refine go_block ?_
   refine go_loop' (X := Nat × List Int × List Bool) (fun z => [(8, .int .i64 (z.1 : Int))]) [(3, _), (4, _), (5, _), (6, _)] (fun z => [pt bC 76 (hc z.2.1 z.2.2 [])]) (fun z => z.1 ≤ a.a.length ∧ z.2.1.length = 16 ∧ z.2.2.length = 16 ∧ meetL f.a (few, is) a.a 0 = meetL f.a z.2 (a.a.drop z.1) z.1 ∧ soFar (few, is) z.2 a f z.1) (fun z => a.a.length - z.1) ((0, few, is)) ⟨rfl, rfl, rfl, rfl, rfl, trivial⟩ (by repeat constructor) ⟨by omega, hf, hi, rfl, soFar.zero _ _ _⟩ ?_
   intro ⟨k, f1, i1⟩ ⟨hk, hf1, hi1, hz, hsf⟩
   simp only at hk hf1 hi1 hz hsf ⊢
   iterate 8 first | refine go_seq ?_ | refine go_region rfl ?_ | refine go_pure0 Tk rfl rfl rfl ?_ | refine go_val0 rfl (ldv Tk rfl rfl rfl) rfl ?_
   refine go_nil ?_
   refine go_env [(3, _), (4, _), (5, _), (6, _), (8, _), (29, _)] ⟨rfl, rfl, rfl, rfl, rfl, rfl, trivial⟩ ?_
   refine go_condD rfl ?_ ?_
   ·intro hq1
    iterate 4 first | refine go_skip ?_ | refine go_seq ?_ | refine go_block ?_
    refine go_elem_tm (xs := a.a) (by repeat constructor) (k) (List.getElem?_eq_getElem (by omega)) (fun b1 o1 hA => ?_); cases hA
    refine go_elem_int (xs := f.a) (by repeat constructor) (k) (List.getElem?_eq_getElem (by omega)) (fun b2 o2 hA => ?_); cases hA
    iterate 4 first | refine go_region rfl ?_ | refine go_pure0 Tk rfl rfl rfl ?_ | refine go_val0 rfl (ldv Tk rfl rfl rfl) rfl ?_
    refine go_val0 rfl (idx_val Tk rfl rfl rfl rfl rfl (by omega)) rfl ?_
    refine go_val0 rfl (ldv Tk rfl rfl rfl) rfl ?_
    refine go_alloc Tk rfl rfl rfl (by rfl) rfl rfl (fun h => nomatch h) ?_
    intro bT
    refine go_store Tk rfl rfl rfl rfl rfl rfl (by repeat constructor) rfl rfl (by rfl) (fun h => nomatch h) ?_
    refine go_nil ?_
    refine go_freeze_pt (b := bT) (by repeat constructor) ?_
    refine go_env [(3, _), (4, _), (5, _), (6, _), (8, _), (9, _)] ⟨rfl, rfl, rfl, rfl, rfl, rfl, trivial⟩ ?_
    iterate 6 first | refine go_seq ?_ | refine go_region rfl ?_ | refine go_pure0 Tk rfl rfl rfl ?_ | refine go_val0 rfl (ldv Tk rfl rfl rfl) rfl ?_
    refine go_nil ?_
    refine go_env [(3, _), (4, _), (5, _), (6, _), (8, _), (9, _), (39, _)] ⟨rfl, rfl, rfl, rfl, rfl, rfl, rfl, trivial⟩ ?_
    refine go_cond rfl ?_ ?_
    ·intro g3
     (try simp only [decide_eq_true_eq, decide_eq_false_iff_not, Bool.not_eq_true', Bool.not_eq_false', Bool.not_eq_eq_eq_not, Bool.not_true, Bool.not_false, Int.not_lt, Int.not_le, beq_iff_eq, beq_eq_false_iff_ne, ne_eq] at g3)
     iterate 2 refine go_seq ?_
     refine go_draw ([cl bT 0 [.bool a.a[k].v, .int .u32 a.a[k].n], cl bF 0 [.int .u32 f.p, .slice (some ⟨b2, o2, none⟩) f.a.length fc], cl b2 (o2 + k * 1) [.int .u32 f.a[k]]]) ([]) [1, 3, 6] (SL.pre [(1, 0), (1, 2), (1, 4), (2, 1), (2, 3), (1, 5), (2, 6), (1, 7)] .nil) mixed rfl (by kernel_rfl) ?_
     iterate 5 first | refine go_pure1 Tk rfl rfl rfl ?_ | refine go_val2a rfl (ldv Tk rfl rfl rfl) rfl ?_
     refine go_val1 rfl (idx_val Tk rfl rfl rfl rfl rfl (by omega)) rfl ?_
     refine go_val2a rfl (ldv Tk rfl rfl rfl) rfl ?_
     refine go_pure1 Tk rfl rfl rfl ?_
     refine go_nil ?_
     refine go_env [(3, _), (4, _), (5, _), (6, _), (8, _), (47, _)] ⟨rfl, rfl, rfl, rfl, rfl, rfl, trivial⟩ ?_
     refine go_condN rfl ?_ ?_
     ·intro g4
      have hmt : mtch (putA few is a) f = false := soFar.no1 (c0 := (few, is)) (c := (few, is)) hv (by omega) (by omega) g3 g4
      refine go_seq ?_
      refine go_region rfl ?_
      refine go_val0 rfl (load_val (cs := hc f1 i1 []) Tk rfl rfl rfl (at_all (by repeat constructor) (hc_len hf1 hi1)) rfl) rfl ?_
      refine go_store (cs' := hc f1 i1 []) Tk rfl rfl rfl rfl rfl rfl (by repeat constructor) (beq_of (hc_len hf1 hi1)) (hc_one _ _) (putL_whole (by rw [show (cellsL (.agg (hc f1 i1 []).toArray)).length = 32 from hc_len hf1 hi1]; rfl)) (fun h => nomatch h) ?_
      refine go_pure0 Tk rfl rfl rfl ?_
      refine go_nil ?_
      refine go_env [(6, _), (7, _)] ⟨rfl, rfl, trivial⟩ ?_
      refine go_ret ⟨rfl, rfl⟩ _ _ (res2 (by rfl) (.cell rfl (reads_at Tk rfl (at_all (by repeat constructor) (by first | exact hc_len hf hi | exact hc_len hf1 hi1)) (by rfl))) (.tmp rfl)) ((by first | exact ⟨(few, is), congrArg (fun b => Value.tuple #[.agg (hc few is []).toArray, .bool b]) hmt.symm, ⟨hf, hi⟩, fun q => absurd (hmt.symm.trans q) (by decide), rfl, rfl⟩ | exact ⟨(f1, i1), congrArg (fun b => Value.tuple #[.agg (hc f1 i1 []).toArray, .bool b]) hmt.symm, ⟨hf1, hi1⟩, fun q => absurd (hmt.symm.trans q) (by decide), rfl, rfl⟩ | exact ⟨(f1, i1), congrArg (fun b => Value.tuple #[.agg (hc f1 i1 []).toArray, .bool b]) (soFar.end_ (c0 := (few, is)) (c := (f1, i1)) hv (by rw [show a.a.length = k from by omega]; exact hsf) (by omega) hln).symm, ⟨hf1, hi1⟩, fun _ => by rw [hz, List.drop_eq_nil_of_le (by omega)]; rfl, rfl, rfl⟩)) (by repeat constructor) (by repeat constructor)
     ·intro g4
      iterate 6 first | refine go_skip ?_ | refine go_exit rfl ?_ | refine go_region rfl ?_ | refine go_pure0 Tk rfl rfl rfl ?_
      refine go_nil ?_
      refine go_i64 8 rfl (by omega) (by omega) ?_
      refine go_back (k + 1, f1, i1) ⟨rfl, rfl, rfl, rfl, rfl, trivial⟩ (by repeat constructor) (by repeat constructor) ⟨by show k + 1 ≤ _; omega, hf1, hi1, by rw [hz, List.drop_eq_getElem_cons (by omega), meetL, if_neg (by rw [g3]; decide)], hsf.same (by omega) (by omega) g3 g4⟩ (by show a.a.length - (k + 1) < a.a.length - k; omega)
    ·intro g3
     (try simp only [decide_eq_true_eq, decide_eq_false_iff_not, Bool.not_eq_true', Bool.not_eq_false', Bool.not_eq_eq_eq_not, Bool.not_true, Bool.not_false, Int.not_lt, Int.not_le, beq_iff_eq, beq_eq_false_iff_ne, ne_eq] at g3)
     obtain ⟨j, hj, hj16⟩ : ∃ j : Nat, a.a[k].n = (j : Int) ∧ j < 16 := ⟨a.a[k].n.toNat, by have := hv _ (List.getElem_mem _) g3; omega, by have := hv _ (List.getElem_mem _) g3; omega⟩
     iterate 3 first | refine go_skip ?_ | refine go_seq ?_
     refine go_draw ([cl bT 0 [.bool a.a[k].v, .int .u32 a.a[k].n], cl bF 0 [.int .u32 f.p, .slice (some ⟨b2, o2, none⟩) f.a.length fc], cl b2 (o2 + k * 1) [.int .u32 f.a[k]]]) ([pt bC 76 (hc f1 i1 [])]) [1, 4, 7, 10, 12, 15] (SL.pre [(1, 0), (1, 2), (2, 1), (1, 3), (2, 4), (1, 5), (1, 6), (1, 8), (1, 11), (1, 13), (2, 7), (1, 9), (2, 10), (2, 12), (1, 14), (2, 15), (1, 16), (1, 17)] .nil) mixed rfl (by kernel_rfl) ?_
     iterate 3 first | refine go_pure1 Tk rfl rfl rfl ?_ | refine go_val2a rfl (ldv Tk rfl rfl rfl) rfl ?_
     refine go_re 50 (.int .u32 (j : Int)) (by show some (Value.int _ _) = _; rw [hj]) ?_
     refine go_val1 rfl (idxA_val Tk rfl rfl rfl rfl rfl (by omega)) rfl ?_
     refine go_val2a rfl (load_val (cs := [.bool i1[j]]) Tk rfl rfl rfl (at_one (by repeat constructor) (hc_is (by omega) (by show 0 + 16 + j * 1 = _; omega))) rfl) rfl ?_
     refine go_pure1 Tk rfl rfl rfl ?_
     refine go_known 54 rfl ?_ ?_
     ·intro g5
      (try simp only [decide_eq_true_eq, decide_eq_false_iff_not, Bool.not_eq_true', Bool.not_eq_false', Bool.not_eq_eq_eq_not, Bool.not_true, Bool.not_false, Int.not_lt, Int.not_le, beq_iff_eq, beq_eq_false_iff_ne, ne_eq] at g5)
      iterate 5 first | refine go_pure1 Tk rfl rfl rfl ?_ | refine go_val2a rfl (ldv Tk rfl rfl rfl) rfl ?_
      refine go_re 56 (.int .u32 (j : Int)) (by show some (Value.int _ _) = _; rw [hj]) ?_
      refine go_val1 rfl (idxA_val Tk rfl rfl rfl rfl rfl (by omega)) rfl ?_
      refine go_val2a rfl (load_val (cs := [.int .u32 f1[j]]) Tk rfl rfl rfl (at_one (by repeat constructor) (hc_few (by omega) (by show 0 + 0 + j * 1 = j; omega))) rfl) rfl ?_
      refine go_val2a rfl (ldv Tk rfl rfl rfl) rfl ?_
      refine go_val1 rfl (idx_val Tk rfl rfl rfl rfl rfl (by omega)) rfl ?_
      iterate 3 first | refine go_val2a rfl (ldv Tk rfl rfl rfl) rfl ?_ | refine go_pure1 Tk rfl rfl rfl ?_
      refine go_nil ?_
      refine go_env [(3, _), (4, _), (5, _), (6, _), (8, _), (9, _), (55, _), (56, _), (57, _), (58, _), (59, _), (60, _), (61, _), (62, _), (63, _), (64, _), (65, _), (66, _)] ⟨rfl, rfl, rfl, rfl, rfl, rfl, rfl, rfl, rfl, rfl, rfl, rfl, rfl, rfl, rfl, rfl, rfl, rfl, trivial⟩ ?_
      refine go_cond rfl ?_ ?_
      ·intro g6
       (try simp only [decide_eq_true_eq, decide_eq_false_iff_not, Bool.not_eq_true', Bool.not_eq_false', Bool.not_eq_eq_eq_not, Bool.not_true, Bool.not_false, Int.not_lt, Int.not_le, beq_iff_eq, beq_eq_false_iff_ne, ne_eq] at g6)
       have hmt : mtch (putA few is a) f = false := soFar.no2 hv hsf (by omega) (by omega) g3 hj (show i1[j]? = some true by rw [List.getElem?_eq_getElem (by omega), g5]) (show f1[j]? = some f1[j] from List.getElem?_eq_getElem (by omega)) g6
       refine go_seq ?_
       refine go_region rfl ?_
       refine go_val0 rfl (load_val (cs := hc f1 i1 []) Tk rfl rfl rfl (at_all (by repeat constructor) (hc_len hf1 hi1)) rfl) rfl ?_
       refine go_store (cs' := hc f1 i1 []) Tk rfl rfl rfl rfl rfl rfl (by repeat constructor) (beq_of (hc_len hf1 hi1)) (hc_one _ _) (putL_whole (by rw [show (cellsL (.agg (hc f1 i1 []).toArray)).length = 32 from hc_len hf1 hi1]; rfl)) (fun h => nomatch h) ?_
       refine go_pure0 Tk rfl rfl rfl ?_
       refine go_nil ?_
       refine go_env [(6, _), (7, _)] ⟨rfl, rfl, trivial⟩ ?_
       refine go_ret ⟨rfl, rfl⟩ _ _ (res2 (by rfl) (.cell rfl (reads_at Tk rfl (at_all (by repeat constructor) (by first | exact hc_len hf hi | exact hc_len hf1 hi1)) (by rfl))) (.tmp rfl)) ((by first | exact ⟨(few, is), congrArg (fun b => Value.tuple #[.agg (hc few is []).toArray, .bool b]) hmt.symm, ⟨hf, hi⟩, fun q => absurd (hmt.symm.trans q) (by decide), rfl, rfl⟩ | exact ⟨(f1, i1), congrArg (fun b => Value.tuple #[.agg (hc f1 i1 []).toArray, .bool b]) hmt.symm, ⟨hf1, hi1⟩, fun q => absurd (hmt.symm.trans q) (by decide), rfl, rfl⟩ | exact ⟨(f1, i1), congrArg (fun b => Value.tuple #[.agg (hc f1 i1 []).toArray, .bool b]) (soFar.end_ (c0 := (few, is)) (c := (f1, i1)) hv (by rw [show a.a.length = k from by omega]; exact hsf) (by omega) hln).symm, ⟨hf1, hi1⟩, fun _ => by rw [hz, List.drop_eq_nil_of_le (by omega)]; rfl, rfl, rfl⟩)) (by repeat constructor) (by repeat constructor)
      ·intro g6
       (try simp only [decide_eq_true_eq, decide_eq_false_iff_not, Bool.not_eq_true', Bool.not_eq_false', Bool.not_eq_eq_eq_not, Bool.not_true, Bool.not_false, Int.not_lt, Int.not_le, beq_iff_eq, beq_eq_false_iff_ne, ne_eq] at g6)
       iterate 5 first | refine go_skip ?_ | refine go_seq ?_ | refine go_region rfl ?_ | refine go_pure0 Tk rfl rfl rfl ?_ | refine go_val0 rfl (ldv Tk rfl rfl rfl) rfl ?_
       refine go_re 69 (.int .u32 (j : Int)) (by show some (Value.int _ _) = _; rw [hj]) ?_
       refine go_pure0 Tk rfl rfl rfl ?_
       refine go_val0 rfl (idxA_val Tk rfl rfl rfl rfl rfl (by omega)) rfl ?_
       refine go_store Tk rfl rfl rfl rfl rfl rfl (by repeat constructor) rfl rfl (hc_put_is (j := j) (by omega) (by show 0 + 16 + j * 1 = _; omega)) (fun h => nomatch h) ?_
       refine go_nil ?_
       refine go_env [(3, _), (4, _), (5, _), (6, _), (8, _), (9, _), (55, _), (56, _), (57, _), (58, _), (59, _), (60, _), (61, _), (62, _), (63, _), (64, _), (65, _)] ⟨rfl, rfl, rfl, rfl, rfl, rfl, rfl, rfl, rfl, rfl, rfl, rfl, rfl, rfl, rfl, rfl, rfl, trivial⟩ ?_
       refine go_draw ([cl bT 0 [.bool a.a[k].v, .int .u32 a.a[k].n], cl bF 0 [.int .u32 f.p, .slice (some ⟨b2, o2, none⟩) f.a.length fc], cl b2 (o2 + k * 1) [.int .u32 f.a[k]]]) ([]) [1, 3, 6] (SL.pre [(1, 0), (1, 2), (1, 4), (1, 7), (2, 1), (2, 3), (1, 5), (2, 6), (1, 8), (0, 9)] .nil) mixed rfl (by kernel_rfl) ?_
       iterate 5 first | refine go_pure1 Tk rfl rfl rfl ?_ | refine go_val2a rfl (ldv Tk rfl rfl rfl) rfl ?_
       refine go_re 73 (.int .u32 (j : Int)) (by show some (Value.int _ _) = _; rw [hj]) ?_
       refine go_val2a rfl (ldv Tk rfl rfl rfl) rfl ?_
       refine go_val1 rfl (idx_val Tk rfl rfl rfl rfl rfl (by omega)) rfl ?_
       refine go_val2a rfl (ldv Tk rfl rfl rfl) rfl ?_
       refine go_val1 rfl (idxA_val Tk rfl rfl rfl rfl rfl (by omega)) rfl ?_
       refine go_store Tk rfl rfl rfl rfl rfl rfl (by repeat constructor) rfl rfl (hc_put_few (j := j) (by omega) (by show 0 + 0 + j * 1 = j; omega)) (by first | exact (fun _ => satA) | exact (fun h => nomatch h) | exact (fun h => nomatch (Eq.symm h).trans (show _ = false by kernel_rfl))) ?_
       refine go_nil ?_
       refine go_env [(3, _), (4, _), (5, _), (6, _), (8, _), (55, _), (56, _), (57, _), (58, _), (59, _), (60, _), (61, _), (62, _), (63, _), (64, _), (65, _)] ⟨rfl, rfl, rfl, rfl, rfl, rfl, rfl, rfl, rfl, rfl, rfl, rfl, rfl, rfl, rfl, rfl, trivial⟩ ?_
       refine go_blk ?_
       iterate 4 first | refine go_region rfl ?_ | refine go_pure0 Tk rfl rfl rfl ?_
       refine go_nil ?_
       refine go_i64 8 rfl (by omega) (by omega) ?_
       refine go_back (k + 1, f1.set j f.a[k], i1.set j true) ⟨rfl, rfl, rfl, rfl, rfl, trivial⟩ (by repeat constructor) (by repeat constructor) ⟨by show k + 1 ≤ _; omega, by simpa using hf1, by simpa using hi1, by rw [hz, List.drop_eq_getElem_cons (by omega), meetL, if_pos g3, hj, Int.toNat_natCast, List.getElem?_eq_getElem (by omega)]; rfl, hsf.set ⟨hf1, hi1⟩ (by omega) (by omega) g3 hj hj16 (by first | exact .inr (show f1[j]? = _ by rw [List.getElem?_eq_getElem (by omega), g6]) | exact .inl (show i1[j]? = _ by rw [List.getElem?_eq_getElem (by omega), g5]))⟩ (by show a.a.length - (k + 1) < a.a.length - k; omega)
     ·intro g5
      (try simp only [decide_eq_true_eq, decide_eq_false_iff_not, Bool.not_eq_true', Bool.not_eq_false', Bool.not_eq_eq_eq_not, Bool.not_true, Bool.not_false, Int.not_lt, Int.not_le, beq_iff_eq, beq_eq_false_iff_ne, ne_eq] at g5)
      iterate 4 refine go_skip1 rfl rfl ?_
      refine go_skip2 rfl (by repeat constructor) (by repeat constructor) rfl ?_
      refine go_skip1 rfl rfl ?_
      refine go_skip2 rfl (by repeat constructor) (by repeat constructor) rfl ?_
      refine go_skip2 rfl (by repeat constructor) (by repeat constructor) rfl ?_
      refine go_skip1 rfl rfl ?_
      refine go_skip2 rfl (by repeat constructor) (by repeat constructor) rfl ?_
      refine go_skip1 rfl rfl ?_
      refine go_pure1 Tk rfl rfl rfl ?_
      refine go_nil ?_
      refine go_env [(3, _), (4, _), (5, _), (6, _), (8, _), (9, _), (55, _), (56, _), (57, _), (58, _), (59, _), (60, _), (61, _), (62, _), (63, _), (64, _), (65, _), (66, _)] ⟨rfl, rfl, rfl, rfl, rfl, rfl, rfl, rfl, rfl, rfl, rfl, rfl, rfl, rfl, rfl, rfl, rfl, rfl, trivial⟩ ?_
      refine go_cond_f rfl ?_
      refine go_skip ?_
      refine go_seq ?_
      refine go_region rfl ?_
      refine go_pure0 Tk rfl rfl rfl ?_
      refine go_val0 rfl (ldv Tk rfl rfl rfl) rfl ?_
      refine go_re 69 (.int .u32 (j : Int)) (by show some (Value.int _ _) = _; rw [hj]) ?_
      refine go_pure0 Tk rfl rfl rfl ?_
      refine go_val0 rfl (idxA_val Tk rfl rfl rfl rfl rfl (by omega)) rfl ?_
      refine go_store Tk rfl rfl rfl rfl rfl rfl (by repeat constructor) rfl rfl (hc_put_is (j := j) (by omega) (by show 0 + 16 + j * 1 = _; omega)) (fun h => nomatch h) ?_
      refine go_nil ?_
      refine go_env [(3, _), (4, _), (5, _), (6, _), (8, _), (9, _), (55, _), (56, _), (57, _), (58, _), (59, _), (60, _), (61, _), (62, _), (63, _), (64, _), (65, _)] ⟨rfl, rfl, rfl, rfl, rfl, rfl, rfl, rfl, rfl, rfl, rfl, rfl, rfl, rfl, rfl, rfl, rfl, trivial⟩ ?_
      refine go_draw ([cl bT 0 [.bool a.a[k].v, .int .u32 a.a[k].n], cl bF 0 [.int .u32 f.p, .slice (some ⟨b2, o2, none⟩) f.a.length fc], cl b2 (o2 + k * 1) [.int .u32 f.a[k]]]) ([]) [1, 3, 6] (SL.pre [(1, 0), (1, 2), (1, 4), (1, 7), (2, 1), (2, 3), (1, 5), (2, 6), (1, 8), (0, 9)] .nil) mixed rfl (by kernel_rfl) ?_
      iterate 5 first | refine go_pure1 Tk rfl rfl rfl ?_ | refine go_val2a rfl (ldv Tk rfl rfl rfl) rfl ?_
      refine go_re 73 (.int .u32 (j : Int)) (by show some (Value.int _ _) = _; rw [hj]) ?_
      refine go_val2a rfl (ldv Tk rfl rfl rfl) rfl ?_
      refine go_val1 rfl (idx_val Tk rfl rfl rfl rfl rfl (by omega)) rfl ?_
      refine go_val2a rfl (ldv Tk rfl rfl rfl) rfl ?_
      refine go_val1 rfl (idxA_val Tk rfl rfl rfl rfl rfl (by omega)) rfl ?_
      refine go_store Tk rfl rfl rfl rfl rfl rfl (by repeat constructor) rfl rfl (hc_put_few (j := j) (by omega) (by show 0 + 0 + j * 1 = j; omega)) (by first | exact (fun _ => satA) | exact (fun h => nomatch h) | exact (fun h => nomatch (Eq.symm h).trans (show _ = false by kernel_rfl))) ?_
      refine go_nil ?_
      refine go_env [(3, _), (4, _), (5, _), (6, _), (8, _), (55, _), (56, _), (57, _), (58, _), (59, _), (60, _), (61, _), (62, _), (63, _), (64, _), (65, _)] ⟨rfl, rfl, rfl, rfl, rfl, rfl, rfl, rfl, rfl, rfl, rfl, rfl, rfl, rfl, rfl, rfl, trivial⟩ ?_
      refine go_blk ?_
      iterate 4 first | refine go_region rfl ?_ | refine go_pure0 Tk rfl rfl rfl ?_
      refine go_nil ?_
      refine go_i64 8 rfl (by omega) (by omega) ?_
      refine go_back (k + 1, f1.set j f.a[k], i1.set j true) ⟨rfl, rfl, rfl, rfl, rfl, trivial⟩ (by repeat constructor) (by repeat constructor) ⟨by show k + 1 ≤ _; omega, by simpa using hf1, by simpa using hi1, by rw [hz, List.drop_eq_getElem_cons (by omega), meetL, if_pos g3, hj, Int.toNat_natCast, List.getElem?_eq_getElem (by omega)]; rfl, hsf.set ⟨hf1, hi1⟩ (by omega) (by omega) g3 hj hj16 (by first | exact .inr (show f1[j]? = _ by rw [List.getElem?_eq_getElem (by omega), g6]) | exact .inl (show i1[j]? = _ by rw [List.getElem?_eq_getElem (by omega), g5]))⟩ (by show a.a.length - (k + 1) < a.a.length - k; omega)
   ·intro hq1
    refine go_exit rfl ?_
    refine go_seq ?_
    refine go_region rfl ?_
    refine go_val0 rfl (load_val (cs := hc f1 i1 []) Tk rfl rfl rfl (at_all (by repeat constructor) (hc_len hf1 hi1)) rfl) rfl ?_
    refine go_store (cs' := hc f1 i1 []) Tk rfl rfl rfl rfl rfl rfl (by repeat constructor) (beq_of (hc_len hf1 hi1)) (hc_one _ _) (putL_whole (by rw [show (cellsL (.agg (hc f1 i1 []).toArray)).length = 32 from hc_len hf1 hi1]; rfl)) (fun h => nomatch h) ?_
    refine go_pure0 Tk rfl rfl rfl ?_
    refine go_nil ?_
    refine go_env [(6, _), (7, _)] ⟨rfl, rfl, trivial⟩ ?_
    refine go_ret ⟨rfl, rfl⟩ _ _ (res2 (by rfl) (.cell rfl (reads_at Tk rfl (at_all (by repeat constructor) (by first | exact hc_len hf hi | exact hc_len hf1 hi1)) (by rfl))) (.tmp rfl)) ((by first | exact ⟨(few, is), congrArg (fun b => Value.tuple #[.agg (hc few is []).toArray, .bool b]) hmt.symm, ⟨hf, hi⟩, fun q => absurd (hmt.symm.trans q) (by decide), rfl, rfl⟩ | exact ⟨(f1, i1), congrArg (fun b => Value.tuple #[.agg (hc f1 i1 []).toArray, .bool b]) hmt.symm, ⟨hf1, hi1⟩, fun q => absurd (hmt.symm.trans q) (by decide), rfl, rfl⟩ | exact ⟨(f1, i1), congrArg (fun b => Value.tuple #[.agg (hc f1 i1 []).toArray, .bool b]) (soFar.end_ (c0 := (few, is)) (c := (f1, i1)) hv (by rw [show a.a.length = k from by omega]; exact hsf) (by omega) hln).symm, ⟨hf1, hi1⟩, fun _ => by rw [hz, List.drop_eq_nil_of_le (by omega)]; rfl, rfl, rfl⟩)) (by repeat constructor) (by repeat constructor)

end Go.Proofs.YtkhddfknpegpmaaGreat.SL

/- Contracts of functions of the program (Reffi): what each call comes to, for the laws' proofs. -/
set_option linter.unusedVariables false
set_option linter.unusedSimpArgs false
namespace Go.Proofs.YtkhddfknpegpmaaGreat.SL
open Go 

/-- The document's finder: what it has gathered may lie anywhere. -/
def finO (bX : Nat) (c : Cl) (CA : Option Addr) (cc : Nat) (CB : Option Addr) (cd : Nat) (F : List Fa) (FA : Option Addr) (fc : Nat) (R : List Fa) (RA : Option Addr) (rc : Nat) (N : List Fa) (NA : Option Addr) (nc : Nat) (out : List Fa) : OA :=
  OA.ex fun A : Option Addr => OA.ex fun k : Nat => OA.pa (sl tFa A k out) (pt bX 71 [.int .u32 c.h.p, .slice CA c.h.a.length cc, .slice CB c.b.length cd, .slice FA F.length fc, .slice RA R.length rc, .slice NA N.length nc, .slice A (out).length k])
theorem go_fin {C : Ctx} {k : List It} {E : Env} {Ps : List PA} {Os : List OA} {bX : Nat} {c : Cl} {CA : Option Addr} {cc : Nat} {CB : Option Addr} {cd : Nat} {F : List Fa} {FA : Option Addr} {fc : Nat} {R : List Fa} {RA : Option Addr} {rc : Nat} {N : List Fa} {NA : Option Addr} {nc : Nat} {out : List Fa} {rr : List OA}
    (h : Rem (finO bX c CA cc CB cd F FA fc R RA rc N NA nc out) Os rr) (g : ∀ (A : Option Addr) (j : Nat), Go C k E (sl tFa A j out :: Ps) (pt bX 71 [.int .u32 c.h.p, .slice CA c.h.a.length cc, .slice CB c.b.length cd, .slice FA F.length fc, .slice RA R.length rc, .slice NA N.length nc, .slice A (out).length j] :: rr)) : Go C k E Ps Os :=
  go_oex h fun A => go_oex .here fun j => go_opa .here (g A j)
theorem go_finfold {C : Ctx} {k : List It} {E : Env} {Ps : List PA} {Os : List OA} {bX : Nat} {c : Cl} {CA : Option Addr} {cc : Nat} {CB : Option Addr} {cd : Nat} {F : List Fa} {FA : Option Addr} {fc : Nat} {R : List Fa} {RA : Option Addr} {rc : Nat} {N : List Fa} {NA : Option Addr} {nc : Nat} {out : List Fa} {A : Option Addr} {j : Nat} {rr : List OA}
    (h : Rem (pt bX 71 [.int .u32 c.h.p, .slice CA c.h.a.length cc, .slice CB c.b.length cd, .slice FA F.length fc, .slice RA R.length rc, .slice NA N.length nc, .slice A (out).length j]) Os rr) (hs : Subs Ps [sl tFa A j out]) (g : Go C k E Ps (finO bX c CA cc CB cd F FA fc R RA rc N NA nc out :: rr)) : Go C k E Ps Os :=
  go_foldp [sl tFa A j out] [pt bX 71 [.int .u32 c.h.p, .slice CA c.h.a.length cc, .slice CB c.b.length cd, .slice FA F.length fc, .slice RA R.length rc, .slice NA N.length nc, .slice A (out).length j]] (finO bX c CA cc CB cd F FA fc R RA rc N NA nc out) hs (.cons h .nil) (fun hp h hq q => ⟨A, j, hq _ (.head _), by obtain ⟨g1, g2, g3, _, _, g6, _⟩ := q; exact g3 _ _ g6⟩) g
theorem go_finsame {C : Ctx} {k : List It} {E : Env} {Ps : List PA} {Os : List OA} {bX : Nat} {c : Cl} {CA : Option Addr} {cc : Nat} {CB : Option Addr} {cd : Nat} {F : List Fa} {FA : Option Addr} {fc : Nat} {R : List Fa} {RA : Option Addr} {rc : Nat} {N : List Fa} {NA : Option Addr} {nc : Nat} {out out' : List Fa} {rr : List OA}
    (h : Rem (finO bX c CA cc CB cd F FA fc R RA rc N NA nc out) Os rr) (e : out = out') (g : Go C k E Ps (finO bX c CA cc CB cd F FA fc R RA rc N NA nc out' :: rr)) : Go C k E Ps Os := by
  subst e; exact go_imp _ [_] h (fun _ _ q => sep_one q) g

set_option maxHeartbeats 4000000 in
set_option maxRecDepth 20000 in
theorem refFrom1 (c : Cl) (CA : Option Addr) (cc : Nat) (CB : Option Addr) (cd : Nat) (bX : Nat) (F : List Fa) (FA : Option Addr) (fc : Nat) (R : List Fa) (RA : Option Addr) (rc : Nat) (N : List Fa) (NA : Option Addr) (nc : Nat) (hR : RightC c) (hl : c.b.length ≤ 8) (lh : c.h.a.length ≤ 12) (lb : ∀ l ∈ c.b, l.a.a.length ≤ 12) (i : Nat) (few : List Int) (is : List Bool) (new : Bool) (out : List Fa) (hil : i ≤ c.b.length) (hf : few.length = 16) (hi : is.length = 16) (hd : domTo c (c.b.drop (i)) (few, is)) (ho : rises out) (hlen : out.length + (goL c F R N (c.b.drop (i)) (few, is) new).length ≤ 50000000) (ih : i < c.b.length → ∀ (few : List Int) (is : List Bool) (new : Bool) (out : List Fa) (hil : i + 1 ≤ c.b.length) (hf : few.length = 16) (hi : is.length = 16) (hd : domTo c (c.b.drop (i + 1)) (few, is)) (ho : rises out) (hlen : out.length + (goL c F R N (c.b.drop (i + 1)) (few, is) new).length ≤ 50000000), Spec Tryz.prog 35 #[.pointer (some ⟨bX, 0, none⟩), .int .i64 ((i + 1 : Nat) : Int), .agg (hc (few) (is) []).toArray, .bool (new)] [sl tTm CA cc c.h.a, sl tLi CB cd c.b, sl tFa FA fc F, sl tFa RA rc R, sl tFa NA nc N] [finO bX c CA cc CB cd F FA fc R RA rc N NA nc (out)] (fun v Ps' Os' => v = .tuple #[] ∧ Ps' = [] ∧ Os' = [finO bX c CA cc CB cd F FA fc R RA rc N NA nc ((goL c F R N (c.b.drop (i + 1)) (few, is) (new)).foldl fput (out))])) :
    Spec Tryz.prog 35 #[.pointer (some ⟨bX, 0, none⟩), .int .i64 (i : Int), .agg (hc (few) (is) []).toArray, .bool (new)] [sl tTm CA cc c.h.a, sl tLi CB cd c.b, sl tFa FA fc F, sl tFa RA rc R, sl tFa NA nc N] [finO bX c CA cc CB cd F FA fc R RA rc N NA nc (out)] (fun v Ps' Os' => v = .tuple #[] ∧ Ps' = [] ∧ Os' = [finO bX c CA cc CB cd F FA fc R RA rc N NA nc ((goL c F R N (c.b.drop (i)) (few, is) (new)).foldl fput (out))]) := by
 refine spec_of (fn := Tryz.f35) (args := [.pointer (some ⟨bX, 0, none⟩), .int .i64 (i : Int), .agg (hc (few) (is) []).toArray, .bool (new)]) 139 Tryz.func35 rfl (by kernel_rfl) Tryz.ntmps35 (Nat.le_of_ble_eq_true rfl) (fun w0 hp0 hf0 => ?_)
 refine go_seq ?_
 refine go_region rfl ?_
 refine go_box (cs := hc few is []) Tk rfl rfl rfl rfl (takeL_len (hc_len hf hi)) (beq_of (hc_len hf hi)) rfl (fun h => nomatch h) ?_
 intro bH
 refine go_freeze_pt (b := bH) (by repeat constructor) ?_
 refine go_nil ?_
 refine go_env [(0, _), (1, _), (3, _), (6, _)] ⟨rfl, rfl, rfl, rfl, trivial⟩ ?_
 iterate 2 refine go_seq ?_
 refine go_len (xs := c.b) (by repeat constructor) (fun l0 m0 => ?_)
 refine go_len (xs := F) (by repeat constructor) (fun l1 m1 => ?_)
 refine go_fin (bX := bX) (by repeat constructor) (fun A9 k9 => ?_)
 iterate 9 first | refine go_region rfl ?_ | refine go_pure0 Tk rfl rfl rfl ?_ | refine go_val0 rfl (ldv Tk rfl rfl rfl) rfl ?_
 refine go_nil ?_
 refine go_env [(0, _), (1, _), (3, _), (6, _), (19, _)] ⟨rfl, rfl, rfl, rfl, rfl, trivial⟩ ?_
 refine go_condD rfl ?_ ?_
 ·intro g0
  have hgo := goL_end (F := F) (R := R) (N := N) (show c.b.length ≤ i by omega) (few, is) new
  rw [hgo] at hlen
  have hda := hd.all (by omega)
  have hrn : ∀ l ∈ c.b, l.no = true → refF few l.a = ofA (putA few is l.a) := fun l hl e => (refF_eq (c := (few, is)) (hR.vb l hl) (fun t ht et => hda _ (hR.heldN l hl e t ht et))).symm
  have hrh : refF few c.h = ofA (putA few is c.h) := (refF_eq (c := (few, is)) hR.vh (fun t ht et => hda _ (hR.held t ht et))).symm
  iterate 4 first | refine go_seq ?_ | refine go_region rfl ?_ | refine go_pure0 Tk rfl rfl rfl ?_
  refine go_nil ?_
  refine go_env [(0, _), (3, _), (6, _), (8, _)] ⟨rfl, rfl, rfl, rfl, trivial⟩ ?_
  refine go_block ?_
  refine go_loop' (X := Nat) (fun k => [(8, .int .i64 (k : Int))]) [(0, _), (3, _), (6, _)] (fun _ => []) (fun k => k ≤ c.b.length ∧ ∀ l ∈ c.b.take k, ¬ (l.no = true ∧ ofA (putA few is l.a) ∈ N)) (fun k => c.b.length - k) (0) ⟨rfl, rfl, rfl, rfl, trivial⟩ (by repeat constructor) ⟨by omega, by simp⟩ ?_
  intro k ⟨hk, hz⟩
  iterate 11 first | refine go_seq ?_ | refine go_region rfl ?_ | refine go_pure0 Tk rfl rfl rfl ?_ | refine go_val0 rfl (ldv Tk rfl rfl rfl) rfl ?_
  refine go_nil ?_
  refine go_env [(0, _), (3, _), (6, _), (8, _), (27, _)] ⟨rfl, rfl, rfl, rfl, rfl, trivial⟩ ?_
  refine go_condD rfl ?_ ?_
  ·intro hq1
   iterate 4 first | refine go_skip ?_ | refine go_seq ?_ | refine go_block ?_
   refine go_elem_li (xs := c.b) (by repeat constructor) (k) (List.getElem?_eq_getElem (by omega)) (fun b1 o1 A2 c2 hA => ?_); cases hA
   refine go_draw ([cl b1 (o1 + k * 3) [.bool c.b[k].no, .int .u32 c.b[k].a.p, .slice A2 c.b[k].a.a.length c2], cl bH 0 (hc few is [])]) ([pt bX 71 [.int .u32 c.h.p, .slice CA c.h.a.length cc, .slice (some ⟨b1, o1, none⟩) c.b.length cd, .slice FA F.length fc, .slice RA R.length rc, .slice NA N.length nc, .slice A9 (out).length k9]]) [4, 8, 13, 14, 19, 23] (SL.pre [(1, 0), (1, 1), (1, 2), (1, 3), (1, 5), (2, 4), (1, 6), (1, 7), (2, 8), (1, 9), (1, 10), (1, 11), (1, 12), (1, 15), (1, 16), (1, 17), (1, 18), (1, 20), (2, 13), (2, 14), (2, 19), (1, 21), (1, 22), (2, 23), (0, 24), (0, 25), (1, 26)] .nil) mixed rfl (by kernel_rfl) ?_
   iterate 6 first | refine go_pure1 Tk rfl rfl rfl ?_ | refine go_val2a rfl (ldv Tk rfl rfl rfl) rfl ?_
   refine go_val1 rfl (idx_val Tk rfl rfl rfl rfl rfl (by omega)) rfl ?_
   iterate 3 first | refine go_pure1 Tk rfl rfl rfl ?_ | refine go_val2a rfl (ldv Tk rfl rfl rfl) rfl ?_
   refine go_known 39 rfl ?_ ?_
   ·intro g1
    (try simp only [decide_eq_true_eq, decide_eq_false_iff_not, Bool.not_eq_true', Bool.not_eq_false', Bool.not_eq_eq_eq_not, Bool.not_true, Bool.not_false, Int.not_lt, Int.not_le, beq_iff_eq, beq_eq_false_iff_ne, ne_eq] at g1)
    iterate 9 first | refine go_pure1 Tk rfl rfl rfl ?_ | refine go_val2a rfl (ldv Tk rfl rfl rfl) rfl ?_
    refine go_val2a rfl (load_val (cs := hc few is []) Tk rfl rfl rfl (at_allcl (by repeat constructor) (hc_len hf hi)) rfl) rfl ?_
    refine go_val2a rfl (ldv Tk rfl rfl rfl) rfl ?_
    refine go_val1 rfl (idx_val Tk rfl rfl rfl rfl rfl (by omega)) rfl ?_
    refine go_pure1 Tk rfl rfl rfl ?_
    refine go_val2a rfl (ldv Tk rfl rfl rfl) rfl ?_
    refine go_call (ref13Fact few is hf hi c.b[k].a A2 c2 (by have := lb c.b[k] (List.getElem_mem _); omega) (hR.vb c.b[k] (List.getElem_mem _))) rfl rfl (by rfl) rfl (by repeat constructor) (by repeat constructor) (fun _ v Ps' Os' hq => by obtain ⟨A5, c5, rfl, rfl, rfl⟩ := hq; exact satS (by repeat constructor) (by repeat constructor)) ?_
    rintro _ _ _ ⟨A5, c5, rfl, rfl, rfl⟩
    rw [hrn _ (List.getElem_mem (by omega)) g1]
    refine go_call (ref13Has NA nc N (ofA (putA few is c.b[k].a)) A5 c5) rfl rfl (by rfl) rfl (by repeat constructor) (by repeat constructor) (fun h => nomatch h) ?_
    rintro _ _ _ ⟨rfl, rfl, rfl⟩
    refine go_pure1 Tk rfl rfl rfl ?_
    refine go_nil ?_
    refine go_env [(0, _), (3, _), (6, _), (8, _), (40, _), (41, _), (42, _), (43, _), (44, _), (45, _), (46, _), (47, _), (48, _), (49, _), (50, _), (51, _), (52, _), (53, _), (54, _), (55, _), (56, _)] ⟨rfl, rfl, rfl, rfl, rfl, rfl, rfl, rfl, rfl, rfl, rfl, rfl, rfl, rfl, rfl, rfl, rfl, rfl, rfl, rfl, rfl, trivial⟩ ?_
    refine go_cond rfl ?_ ?_
    ·intro g2
     (try simp only [decide_eq_true_eq, decide_eq_false_iff_not, Bool.not_eq_true', Bool.not_eq_false', Bool.not_eq_eq_eq_not, Bool.not_true, Bool.not_false, Int.not_lt, Int.not_le, beq_iff_eq, beq_eq_false_iff_ne, ne_eq] at g2)
     refine go_finfold (c := c) (F := F) (R := R) (N := N) (out := out) (by repeat constructor) (by repeat constructor) ?_
     refine go_ret ⟨rfl, rfl⟩ _ _ (res0 (by rfl)) ⟨rfl, rfl, by rw [hgo, if_neg (fun q => by rw [okN_no (c := (few, is)) (by omega) g1 g2] at q; cases q.1)]⟩ (by repeat constructor) (by repeat constructor)
    ·intro g2
     (try simp only [decide_eq_true_eq, decide_eq_false_iff_not, Bool.not_eq_true', Bool.not_eq_false', Bool.not_eq_eq_eq_not, Bool.not_true, Bool.not_false, Int.not_lt, Int.not_le, beq_iff_eq, beq_eq_false_iff_ne, ne_eq] at g2)
     have hkz : ¬ (c.b[k].no = true ∧ ofA (putA few is c.b[k].a) ∈ N) := fun q => g2 q.2
     refine go_skip ?_
     refine go_blk ?_
     iterate 4 first | refine go_region rfl ?_ | refine go_pure0 Tk rfl rfl rfl ?_
     refine go_nil ?_
     refine go_i64 8 rfl (by omega) (by omega) ?_
     refine go_back (k + 1) ⟨rfl, rfl, rfl, rfl, trivial⟩ (by repeat constructor) (by repeat constructor) (⟨by omega, mem_take_next (by omega) hz hkz⟩) (by omega)
   ·intro g1
    (try simp only [decide_eq_true_eq, decide_eq_false_iff_not, Bool.not_eq_true', Bool.not_eq_false', Bool.not_eq_eq_eq_not, Bool.not_true, Bool.not_false, Int.not_lt, Int.not_le, beq_iff_eq, beq_eq_false_iff_ne, ne_eq] at g1)
    have hkz : ¬ (c.b[k].no = true ∧ ofA (putA few is c.b[k].a) ∈ N) := fun q => absurd (g1.symm.trans q.1) (by decide)
    iterate 8 refine go_skip1 rfl rfl ?_
    refine go_skip2 rfl (by repeat constructor) (by repeat constructor) rfl ?_
    refine go_skip2 rfl (by repeat constructor) (by repeat constructor) rfl ?_
    refine go_skip2 rfl (by repeat constructor) (by repeat constructor) rfl ?_
    iterate 2 refine go_skip1 rfl rfl ?_
    refine go_skip2 rfl (by repeat constructor) (by repeat constructor) rfl ?_
    refine go_skip0f rfl satA rfl ?_
    refine go_skip0 rfl rfl ?_
    refine go_pure1 Tk rfl rfl rfl ?_
    refine go_nil ?_
    refine go_env [(0, _), (3, _), (6, _), (8, _), (40, _), (41, _), (42, _), (43, _), (44, _), (45, _), (46, _), (47, _), (48, _), (49, _), (50, _), (51, _), (52, _), (53, _), (54, _), (55, _), (56, _)] ⟨rfl, rfl, rfl, rfl, rfl, rfl, rfl, rfl, rfl, rfl, rfl, rfl, rfl, rfl, rfl, rfl, rfl, rfl, rfl, rfl, rfl, trivial⟩ ?_
    refine go_cond_f rfl ?_
    refine go_skip ?_
    refine go_blk ?_
    iterate 4 first | refine go_region rfl ?_ | refine go_pure0 Tk rfl rfl rfl ?_
    refine go_nil ?_
    refine go_i64 8 rfl (by omega) (by omega) ?_
    refine go_back (k + 1) ⟨rfl, rfl, rfl, rfl, trivial⟩ (by repeat constructor) (by repeat constructor) (⟨by omega, mem_take_next (by omega) hz hkz⟩) (by omega)
  ·intro hq1
   iterate 5 first | refine go_exit rfl ?_ | refine go_seq ?_ | refine go_region rfl ?_ | refine go_pure0 Tk rfl rfl rfl ?_
   refine go_nil ?_
   refine go_env [(0, _), (6, _), (57, _)] ⟨rfl, rfl, rfl, trivial⟩ ?_
   refine go_cond rfl ?_ ?_
   ·intro g3
    (try simp only [decide_eq_true_eq, decide_eq_false_iff_not, Bool.not_eq_true', Bool.not_eq_false', Bool.not_eq_eq_eq_not, Bool.not_true, Bool.not_false, Int.not_lt, Int.not_le, beq_iff_eq, beq_eq_false_iff_ne, ne_eq] at g3)
    have hok : okN N c.b (few, is) = true := okN_yes (by omega) hz
    rw [if_pos ⟨hok, g3⟩, List.length_singleton] at hlen
    refine go_draw ([cl bH 0 (hc few is [])]) ([pt bX 71 [.int .u32 c.h.p, .slice CA c.h.a.length cc, .slice CB c.b.length cd, .slice FA F.length fc, .slice RA R.length rc, .slice NA N.length nc, .slice A9 (out).length k9]]) [4, 5, 10] (SL.pre [(1, 0), (1, 1), (1, 2), (1, 3), (1, 6), (1, 7), (1, 8), (1, 9), (2, 4), (2, 5), (2, 10), (0, 11), (0, 12), (1, 13), (1, 14), (0, 15)] .nil) mixed rfl (by kernel_rfl) ?_
    iterate 9 first | refine go_pure1 Tk rfl rfl rfl ?_ | refine go_val2a rfl (ldv Tk rfl rfl rfl) rfl ?_
    refine go_val2a rfl (load_val (cs := hc few is []) Tk rfl rfl rfl (at_allcl (by repeat constructor) (hc_len hf hi)) rfl) rfl ?_
    refine go_val2a rfl (ldv Tk rfl rfl rfl) rfl ?_
    refine go_call (ref13Fact few is hf hi c.h CA cc (by omega) hR.vh) rfl rfl (by rfl) rfl (by repeat constructor) (by repeat constructor) (fun _ v Ps' Os' hq => by obtain ⟨A6, c6, rfl, rfl, rfl⟩ := hq; exact satS (by repeat constructor) (by repeat constructor)) ?_
    rintro _ _ _ ⟨A6, c6, rfl, rfl, rfl⟩
    rw [hrh]
    refine go_call (ref13With A9 k9 out (ofA (putA few is c.h)) A6 c6 ho (by omega)) rfl rfl (by rfl) rfl (by repeat constructor) (by repeat constructor) (fun h => nomatch h) ?_
    rintro _ _ _ ⟨A7, c7, rfl, rfl, rfl⟩
    iterate 2 refine go_pure1 Tk rfl rfl rfl ?_
    refine go_store Tk rfl rfl rfl rfl rfl rfl (by repeat constructor) rfl rfl (by rfl) (fun h => nomatch h) ?_
    refine go_nil ?_
    refine go_finfold (c := c) (F := F) (R := R) (N := N) (out := fput out (ofA (putA few is c.h))) (by repeat constructor) (by repeat constructor) ?_
    refine go_env [] trivial ?_
    refine go_ret ⟨rfl, rfl⟩ _ _ (res0 (by rfl)) ⟨rfl, rfl, by rw [hgo, if_pos ⟨hok, g3⟩]⟩ (by repeat constructor) (by repeat constructor)
   ·intro g3
    (try simp only [decide_eq_true_eq, decide_eq_false_iff_not, Bool.not_eq_true', Bool.not_eq_false', Bool.not_eq_eq_eq_not, Bool.not_true, Bool.not_false, Int.not_lt, Int.not_le, beq_iff_eq, beq_eq_false_iff_ne, ne_eq] at g3)
    rw [if_neg (fun q => by rw [g3] at q; cases q.2)] at hgo
    refine go_finfold (c := c) (F := F) (R := R) (N := N) (out := out) (by repeat constructor) (by repeat constructor) ?_
    refine go_skip ?_
    refine go_ret ⟨rfl, rfl⟩ _ _ (res0 (by rfl)) ⟨rfl, rfl, by rw [hgo]⟩ (by repeat constructor) (by repeat constructor)
 ·intro g0
  iterate 3 first | refine go_skip ?_ | refine go_seq ?_
  refine go_elem_li (xs := c.b) (by repeat constructor) (i) (List.getElem?_eq_getElem (by omega)) (fun b1 o1 A2 c2 hA => ?_); cases hA
  have hvl := hR.vb c.b[i] (List.getElem_mem _)
  iterate 7 first | refine go_region rfl ?_ | refine go_pure0 Tk rfl rfl rfl ?_ | refine go_val0 rfl (ldv Tk rfl rfl rfl) rfl ?_
  refine go_val0 rfl (idx_val Tk rfl rfl rfl rfl rfl (by omega)) rfl ?_
  refine go_pure0 Tk rfl rfl rfl ?_
  refine go_val0 rfl (ldv Tk rfl rfl rfl) rfl ?_
  refine go_nil ?_
  refine go_env [(0, _), (1, _), (3, _), (6, _), (81, _)] ⟨rfl, rfl, rfl, rfl, rfl, trivial⟩ ?_
  refine go_cond rfl ?_ ?_
  ·intro g1
   (try simp only [decide_eq_true_eq, decide_eq_false_iff_not, Bool.not_eq_true', Bool.not_eq_false', Bool.not_eq_eq_eq_not, Bool.not_true, Bool.not_false, Int.not_lt, Int.not_le, beq_iff_eq, beq_eq_false_iff_ne, ne_eq] at g1)
   have hgo := goL_not (F := F) (R := R) (N := N) (by omega) g1 (few, is) new
   rw [hgo] at hlen
   refine go_finfold (c := c) (F := F) (R := R) (N := N) (out := out) (by repeat constructor) (by repeat constructor) ?_
   iterate 5 first | refine go_seq ?_ | refine go_region rfl ?_ | refine go_pure0 Tk rfl rfl rfl ?_
   refine go_re 84 (.int .i64 ((i + 1 : Nat) : Int)) (by show some (Value.int _ _) = _; rw [wrap_i64 (by omega) (by omega)]; rfl) ?_
   refine go_val0 rfl (load_val (cs := hc few is []) Tk rfl rfl rfl (at_allcl (by repeat constructor) (hc_len hf hi)) rfl) rfl ?_
   refine go_pure0 Tk rfl rfl rfl ?_
   refine go_call (ih (by omega) few is new out (by omega) hf hi (hd.not (by omega) g1) ho hlen) rfl rfl (by rfl) rfl (by repeat constructor) (by repeat constructor) (fun h => nomatch h) ?_
   rintro _ _ _ ⟨rfl, rfl, rfl⟩
   refine go_nil ?_
   refine go_env [] trivial ?_
   refine go_ret ⟨rfl, rfl⟩ _ _ (res0 (by rfl)) ⟨rfl, rfl, by rw [hgo]⟩ (by repeat constructor) (by repeat constructor)
  ·intro g1
   (try simp only [decide_eq_true_eq, decide_eq_false_iff_not, Bool.not_eq_true', Bool.not_eq_false', Bool.not_eq_eq_eq_not, Bool.not_true, Bool.not_false, Int.not_lt, Int.not_le, beq_iff_eq, beq_eq_false_iff_ne, ne_eq] at g1)
   have hgo := goL_yes (F := F) (R := R) (N := N) (by omega) g1 few is new
   rw [flat_filter] at hgo
   rw [hgo] at hlen
   refine go_skip ?_
   refine go_seq ?_
   refine go_finfold (c := c) (F := F) (R := R) (N := N) (out := out) (by repeat constructor) (by repeat constructor) ?_
   refine go_finsame (out' := ((F.take (0)).flatMap (fun f => if mtch (putA few is c.b[i].a) f = true then goF c F R N i few is new f else [])).foldl fput out) (by repeat constructor) (by rfl) ?_
   refine go_region rfl ?_
   refine go_pure0 Tk rfl rfl rfl ?_
   refine go_nil ?_
   refine go_env [(0, _), (1, _), (3, _), (6, _), (9, _)] ⟨rfl, rfl, rfl, rfl, rfl, trivial⟩ ?_
   refine go_block ?_
   refine go_loop' (X := Nat) (fun k => [(9, .int .i64 (k : Int))]) [(0, _), (1, _), (3, _), (6, _)] (fun k => [finO bX c CA cc (some ⟨b1, o1, none⟩) cd F FA fc R RA rc N NA nc (((F.take (k)).flatMap (fun f => if mtch (putA few is c.b[i].a) f = true then goF c F R N i few is new f else [])).foldl fput out)]) (fun k => k ≤ F.length) (fun k => F.length - k) (0) ⟨rfl, rfl, rfl, rfl, rfl, trivial⟩ (by repeat constructor) (by omega) ?_
   intro k hk
   refine go_fin (bX := bX) (by repeat constructor) (fun A8 k8 => ?_)
   iterate 10 first | refine go_seq ?_ | refine go_region rfl ?_ | refine go_pure0 Tk rfl rfl rfl ?_ | refine go_val0 rfl (ldv Tk rfl rfl rfl) rfl ?_
   refine go_nil ?_
   refine go_env [(0, _), (1, _), (3, _), (6, _), (9, _), (94, _)] ⟨rfl, rfl, rfl, rfl, rfl, rfl, trivial⟩ ?_
   refine go_condD rfl ?_ ?_
   ·intro g4
    iterate 4 first | refine go_skip ?_ | refine go_seq ?_ | refine go_block ?_
    refine go_cutO (X := Nat × Ch) (fun x => [(10, .pointer (some ⟨x.1, 0, none⟩)), (11, .bool (mtch (putA few is c.b[i].a) F[k]))]) [(0, _), (1, _), (3, _), (6, _), (9, _)] (fun x => [pt x.1 76 (hc x.2.1 x.2.2 []), pt bX 71 [.int .u32 c.h.p, .slice CA c.h.a.length cc, .slice (some ⟨b1, o1, none⟩) c.b.length cd, .slice FA F.length fc, .slice RA R.length rc, .slice NA N.length nc, .slice A8 (((F.take (k)).flatMap (fun f => if mtch (putA few is c.b[i].a) f = true then goF c F R N i few is new f else [])).foldl fput out).length k8]]) ([pt bX 71 [.int .u32 c.h.p, .slice CA c.h.a.length cc, .slice (some ⟨b1, o1, none⟩) c.b.length cd, .slice FA F.length fc, .slice RA R.length rc, .slice NA N.length nc, .slice A8 (((F.take (k)).flatMap (fun f => if mtch (putA few is c.b[i].a) f = true then goF c F R N i few is new f else [])).foldl fput out).length k8]]) (fun x => x.2.ok ∧ (mtch (putA few is c.b[i].a) F[k] = true → x.2 = meetL F[k].a (few, is) c.b[i].a.a 0)) ⟨rfl, rfl, rfl, rfl, rfl, trivial⟩ (by repeat constructor) ?_ ?_
    ·skip
     refine go_elem_fa (xs := F) (by repeat constructor) (k) (List.getElem?_eq_getElem (by omega)) (fun b3 o3 A3 c3 hA => ?_); cases hA
     refine go_draw ([cl bH 0 (hc few is []), cl b1 (o1 + i * 3) [.bool c.b[i].no, .int .u32 c.b[i].a.p, .slice A2 c.b[i].a.a.length c2], cl b3 (o3 + k * 2) [.int .u32 F[k].p, .slice A3 F[k].a.length c3]]) ([pt bX 71 [.int .u32 c.h.p, .slice CA c.h.a.length cc, .slice (some ⟨b1, o1, none⟩) c.b.length cd, .slice (some ⟨b3, o3, none⟩) F.length fc, .slice RA R.length rc, .slice NA N.length nc, .slice A8 (((F.take (k)).flatMap (fun f => if mtch (putA few is c.b[i].a) f = true then goF c F R N i few is new f else [])).foldl fput out).length k8]]) [0, 5, 9, 13, 16] (SL.pre [(1, 1), (1, 2), (1, 3), (1, 4), (1, 6), (1, 10), (1, 11), (1, 12), (1, 14), (2, 0), (2, 5), (1, 7), (1, 8), (2, 9), (2, 13), (1, 15), (2, 16)] (.two (SL.pre [(0, 17), (1, 18), (1, 19), (1, 20), (0, 21), (0, 22), (1, 23)] .nil) (SL.pre [(0, 21), (0, 17), (1, 18), (1, 19), (1, 20), (0, 22), (1, 23)] .nil))) mixed rfl (by kernel_rfl) ?_
     iterate 9 refine go_pure1 Tk rfl rfl rfl ?_
     refine go_val2a rfl (load_val (cs := hc few is []) Tk rfl rfl rfl (at_allcl (by repeat constructor) (hc_len hf hi)) rfl) rfl ?_
     refine go_val2a rfl (ldv Tk rfl rfl rfl) rfl ?_
     refine go_val1 rfl (idx_val Tk rfl rfl rfl rfl rfl (by omega)) rfl ?_
     iterate 3 first | refine go_pure1 Tk rfl rfl rfl ?_ | refine go_val2a rfl (ldv Tk rfl rfl rfl) rfl ?_
     refine go_val1 rfl (idx_val Tk rfl rfl rfl rfl rfl (by omega)) rfl ?_
     refine go_val2a rfl (ldv Tk rfl rfl rfl) rfl ?_
     refine go_two ?_ ?_
     ·skip
      refine go_call (ref13meet few is hf hi c.b[i].a A2 c2 F[k] A3 c3 hvl) rfl rfl (by rfl) rfl (by repeat constructor) (by repeat constructor) (fun h => nomatch h) ?_
      rintro _ _ _ ⟨ch, rfl, hco, hcm, rfl, rfl⟩
      iterate 3 refine go_pure1 Tk rfl rfl rfl ?_
      refine go_alloc Tk rfl rfl rfl (by rfl) rfl rfl (fun _ _ => satA) ?_
      intro bD
      refine go_store (cs' := hc ch.1 ch.2 []) Tk rfl rfl rfl rfl rfl rfl (by repeat constructor) (beq_of (hc_len hco.f hco.i)) (hc_one _ _) (putL_whole (by rw [show (cellsL (.agg (hc ch.1 ch.2 []).toArray)).length = 32 from hc_len hco.f hco.i]; rfl)) (by first | exact (fun _ => satA) | exact (fun h => nomatch h) | exact (fun h => nomatch (Eq.symm h).trans (show _ = false by kernel_rfl))) ?_
      refine go_pure1 Tk rfl rfl rfl ?_
      refine go_nil ?_
      refine go_back (bD, ch) ⟨rfl, rfl, rfl, rfl, rfl, rfl, rfl, trivial⟩ (by repeat constructor) (by repeat constructor) ⟨hco, hcm⟩ (by decide)
     refine go_alloc Tk rfl rfl rfl (by rfl) rfl rfl (fun _ _ => satA) ?_
     intro bD
     refine go_call (ref13meet few is hf hi c.b[i].a A2 c2 F[k] A3 c3 hvl) rfl rfl (by rfl) rfl (by repeat constructor) (by repeat constructor) (fun h => nomatch h) ?_
     rintro _ _ _ ⟨ch, rfl, hco, hcm, rfl, rfl⟩
     iterate 3 refine go_pure1 Tk rfl rfl rfl ?_
     refine go_store (cs' := hc ch.1 ch.2 []) Tk rfl rfl rfl rfl rfl rfl (by repeat constructor) (beq_of (hc_len hco.f hco.i)) (hc_one _ _) (putL_whole (by rw [show (cellsL (.agg (hc ch.1 ch.2 []).toArray)).length = 32 from hc_len hco.f hco.i]; rfl)) (by first | exact (fun _ => satA) | exact (fun h => nomatch h) | exact (fun h => nomatch (Eq.symm h).trans (show _ = false by kernel_rfl))) ?_
     refine go_pure1 Tk rfl rfl rfl ?_
     refine go_nil ?_
     refine go_back (bD, ch) ⟨rfl, rfl, rfl, rfl, rfl, rfl, rfl, trivial⟩ (by repeat constructor) (by repeat constructor) ⟨hco, hcm⟩ (by decide)
    intro ⟨bD, ch⟩ ⟨hco, hcm⟩
    simp only at hco hcm ⊢
    refine go_freeze_pt (b := bD) (by repeat constructor) ?_
    refine go_seq ?_
    refine go_region rfl ?_
    refine go_pure0 Tk rfl rfl rfl ?_
    refine go_nil ?_
    refine go_env [(0, _), (1, _), (3, _), (6, _), (9, _), (10, _), (118, _)] ⟨rfl, rfl, rfl, rfl, rfl, rfl, rfl, trivial⟩ ?_
    refine go_cond rfl ?_ ?_
    ·intro g2
     (try simp only [decide_eq_true_eq, decide_eq_false_iff_not, Bool.not_eq_true', Bool.not_eq_false', Bool.not_eq_eq_eq_not, Bool.not_true, Bool.not_false, Int.not_lt, Int.not_le, beq_iff_eq, beq_eq_false_iff_ne, ne_eq] at g2)
     have hce := hcm g2
     subst hce
     refine go_elem_fa (xs := F) (by repeat constructor) (k) (List.getElem?_eq_getElem (by omega)) (fun b3 o3 A3 c3 hA => ?_); cases hA
     refine go_draw ([cl bD 0 (hc (meetL F[k].a (few, is) c.b[i].a.a 0).1 (meetL F[k].a (few, is) c.b[i].a.a 0).2 []), cl b3 (o3 + k * 2) [.int .u32 F[k].p, .slice A3 F[k].a.length c3]]) ([pt bX 71 [.int .u32 c.h.p, .slice CA c.h.a.length cc, .slice (some ⟨b1, o1, none⟩) c.b.length cd, .slice (some ⟨b3, o3, none⟩) F.length fc, .slice RA R.length rc, .slice NA N.length nc, .slice A8 (((F.take (k)).flatMap (fun f => if mtch (putA few is c.b[i].a) f = true then goF c F R N i few is new f else [])).foldl fput out).length k8]]) [3, 9, 13, 16] (SL.pre [(1, 0), (1, 1), (1, 2), (1, 4), (1, 5), (1, 6), (1, 7), (1, 8), (1, 10), (1, 11), (1, 12), (1, 14), (2, 3), (2, 9), (2, 13), (1, 15), (2, 16), (0, 17), (1, 18), (0, 19)] .nil) mixed rfl (by kernel_rfl) ?_
     iterate 3 refine go_pure1 Tk rfl rfl rfl ?_
     refine go_re 121 (.int .i64 ((i + 1 : Nat) : Int)) (by show some (Value.int _ _) = _; rw [wrap_i64 (by omega) (by omega)]; rfl) ?_
     iterate 2 refine go_pure1 Tk rfl rfl rfl ?_
     refine go_known 124 rfl ?_ ?_
     ·intro g5
      (try simp only [decide_eq_true_eq, decide_eq_false_iff_not, Bool.not_eq_true', Bool.not_eq_false', Bool.not_eq_eq_eq_not, Bool.not_true, Bool.not_false, Int.not_lt, Int.not_le, beq_iff_eq, beq_eq_false_iff_ne, ne_eq] at g5)
      iterate 7 refine go_skip1 rfl rfl ?_
      refine go_val2a rfl (load_val (cs := hc (meetL F[k].a (few, is) c.b[i].a.a 0).1 (meetL F[k].a (few, is) c.b[i].a.a 0).2 []) Tk rfl rfl rfl (at_allcl (by repeat constructor) (hc_len hco.f hco.i)) rfl) rfl ?_
      refine go_skip2 rfl (by repeat constructor) (by repeat constructor) rfl ?_
      refine go_skip2 rfl (by repeat constructor) (by repeat constructor) rfl ?_
      refine go_skip1 rfl rfl ?_
      refine go_skip2 rfl (by repeat constructor) (by repeat constructor) rfl ?_
      refine go_skip0f rfl satA rfl ?_
      refine go_pure1 Tk rfl rfl rfl ?_
      refine go_re 137 (.bool (new || decide (F[k] ∈ R))) (by show some (Value.bool _) = _; rw [g5]; simp) ?_
      have hfg : goF c F R N i few is new F[k] = goL c F R N (c.b.drop (i + 1)) (meetL F[k].a (few, is) c.b[i].a.a 0) (new || decide (F[k] ∈ R)) := by
        unfold goF
        rw [List.getElem?_eq_getElem (by omega)]; rfl
      have hfl := flat_len (show k < F.length by omega) (fun f => if mtch (putA few is c.b[i].a) f = true then goF c F R N i few is new f else [])
      rw [if_pos g2, hfg] at hfl
      have hol := foldl_flen ((F.take k).flatMap (fun f => if mtch (putA few is c.b[i].a) f = true then goF c F R N i few is new f else [])) out
      refine go_finfold (c := c) (F := F) (R := R) (N := N) (out := ((F.take (k)).flatMap (fun f => if mtch (putA few is c.b[i].a) f = true then goF c F R N i few is new f else [])).foldl fput out) (by repeat constructor) (by repeat constructor) ?_
      refine go_call (ih (by omega) (meetL F[k].a (few, is) c.b[i].a.a 0).1 (meetL F[k].a (few, is) c.b[i].a.a 0).2 (new || decide (F[k] ∈ R)) (((F.take (k)).flatMap (fun f => if mtch (putA few is c.b[i].a) f = true then goF c F R N i few is new f else [])).foldl fput out) (by omega) hco.f hco.i (hd.yes (by omega) hvl ⟨hf, hi⟩ F[k].a) (foldl_rises _ _ ho) (by show _ + (goL c F R N (c.b.drop (i + 1)) (meetL F[k].a (few, is) c.b[i].a.a 0) (new || decide (F[k] ∈ R))).length ≤ _; omega)) rfl rfl (by rfl) rfl (by repeat constructor) (by repeat constructor) (fun h => nomatch h) ?_
      rintro _ _ _ ⟨rfl, rfl, rfl⟩
      refine go_nil ?_
      refine go_env [(0, _), (1, _), (3, _), (6, _), (9, _), (125, _), (126, _), (127, _), (128, _), (129, _), (130, _), (131, _), (132, _), (133, _), (134, _), (135, _), (136, _)] ⟨rfl, rfl, rfl, rfl, rfl, rfl, rfl, rfl, rfl, rfl, rfl, rfl, rfl, rfl, rfl, rfl, rfl, trivial⟩ ?_
      refine go_blk ?_
      iterate 4 first | refine go_region rfl ?_ | refine go_pure0 Tk rfl rfl rfl ?_
      refine go_nil ?_
      refine go_i64 9 rfl (by omega) (by omega) ?_
      refine go_finsame (out' := ((F.take (k + 1)).flatMap (fun f => if mtch (putA few is c.b[i].a) f = true then goF c F R N i few is new f else [])).foldl fput out) (by repeat constructor) (by rw [flat_next (by omega), List.foldl_append, if_pos g2, hfg]) ?_
      refine go_back (k + 1) ⟨rfl, rfl, rfl, rfl, rfl, trivial⟩ (by repeat constructor) (by repeat constructor) (by omega) (by omega)
     ·intro g5
      (try simp only [decide_eq_true_eq, decide_eq_false_iff_not, Bool.not_eq_true', Bool.not_eq_false', Bool.not_eq_eq_eq_not, Bool.not_true, Bool.not_false, Int.not_lt, Int.not_le, beq_iff_eq, beq_eq_false_iff_ne, ne_eq] at g5)
      iterate 7 refine go_pure1 Tk rfl rfl rfl ?_
      refine go_val2a rfl (load_val (cs := hc (meetL F[k].a (few, is) c.b[i].a.a 0).1 (meetL F[k].a (few, is) c.b[i].a.a 0).2 []) Tk rfl rfl rfl (at_allcl (by repeat constructor) (hc_len hco.f hco.i)) rfl) rfl ?_
      iterate 2 refine go_val2a rfl (ldv Tk rfl rfl rfl) rfl ?_
      refine go_val1 rfl (idx_val Tk rfl rfl rfl rfl rfl (by omega)) rfl ?_
      refine go_val2a rfl (ldv Tk rfl rfl rfl) rfl ?_
      refine go_call (ref13Has RA rc R F[k] A3 c3) rfl rfl (by rfl) rfl (by repeat constructor) (by repeat constructor) (fun _ v Ps' Os' hq => by obtain ⟨rfl, rfl, rfl⟩ := hq; exact satS (by repeat constructor) (by repeat constructor)) ?_
      rintro _ _ _ ⟨rfl, rfl, rfl⟩
      refine go_pure1 Tk rfl rfl rfl ?_
      refine go_re 137 (.bool (new || decide (F[k] ∈ R))) (by show some (Value.bool _) = _; rw [g5]; simp) ?_
      have hfg : goF c F R N i few is new F[k] = goL c F R N (c.b.drop (i + 1)) (meetL F[k].a (few, is) c.b[i].a.a 0) (new || decide (F[k] ∈ R)) := by
        unfold goF
        rw [List.getElem?_eq_getElem (by omega)]; rfl
      have hfl := flat_len (show k < F.length by omega) (fun f => if mtch (putA few is c.b[i].a) f = true then goF c F R N i few is new f else [])
      rw [if_pos g2, hfg] at hfl
      have hol := foldl_flen ((F.take k).flatMap (fun f => if mtch (putA few is c.b[i].a) f = true then goF c F R N i few is new f else [])) out
      refine go_finfold (c := c) (F := F) (R := R) (N := N) (out := ((F.take (k)).flatMap (fun f => if mtch (putA few is c.b[i].a) f = true then goF c F R N i few is new f else [])).foldl fput out) (by repeat constructor) (by repeat constructor) ?_
      refine go_call (ih (by omega) (meetL F[k].a (few, is) c.b[i].a.a 0).1 (meetL F[k].a (few, is) c.b[i].a.a 0).2 (new || decide (F[k] ∈ R)) (((F.take (k)).flatMap (fun f => if mtch (putA few is c.b[i].a) f = true then goF c F R N i few is new f else [])).foldl fput out) (by omega) hco.f hco.i (hd.yes (by omega) hvl ⟨hf, hi⟩ F[k].a) (foldl_rises _ _ ho) (by show _ + (goL c F R N (c.b.drop (i + 1)) (meetL F[k].a (few, is) c.b[i].a.a 0) (new || decide (F[k] ∈ R))).length ≤ _; omega)) rfl rfl (by rfl) rfl (by repeat constructor) (by repeat constructor) (fun h => nomatch h) ?_
      rintro _ _ _ ⟨rfl, rfl, rfl⟩
      refine go_nil ?_
      refine go_env [(0, _), (1, _), (3, _), (6, _), (9, _), (125, _), (126, _), (127, _), (128, _), (129, _), (130, _), (131, _), (132, _), (133, _), (134, _), (135, _), (136, _)] ⟨rfl, rfl, rfl, rfl, rfl, rfl, rfl, rfl, rfl, rfl, rfl, rfl, rfl, rfl, rfl, rfl, rfl, trivial⟩ ?_
      refine go_blk ?_
      iterate 4 first | refine go_region rfl ?_ | refine go_pure0 Tk rfl rfl rfl ?_
      refine go_nil ?_
      refine go_i64 9 rfl (by omega) (by omega) ?_
      refine go_finsame (out' := ((F.take (k + 1)).flatMap (fun f => if mtch (putA few is c.b[i].a) f = true then goF c F R N i few is new f else [])).foldl fput out) (by repeat constructor) (by rw [flat_next (by omega), List.foldl_append, if_pos g2, hfg]) ?_
      refine go_back (k + 1) ⟨rfl, rfl, rfl, rfl, rfl, trivial⟩ (by repeat constructor) (by repeat constructor) (by omega) (by omega)
    ·intro g2
     (try simp only [decide_eq_true_eq, decide_eq_false_iff_not, Bool.not_eq_true', Bool.not_eq_false', Bool.not_eq_eq_eq_not, Bool.not_true, Bool.not_false, Int.not_lt, Int.not_le, beq_iff_eq, beq_eq_false_iff_ne, ne_eq] at g2)
     refine go_skip ?_
     refine go_blk ?_
     iterate 4 first | refine go_region rfl ?_ | refine go_pure0 Tk rfl rfl rfl ?_
     refine go_nil ?_
     refine go_finfold (c := c) (F := F) (R := R) (N := N) (out := ((F.take (k)).flatMap (fun f => if mtch (putA few is c.b[i].a) f = true then goF c F R N i few is new f else [])).foldl fput out) (by repeat constructor) (by repeat constructor) ?_
     refine go_i64 9 rfl (by omega) (by omega) ?_
     refine go_finsame (out' := ((F.take (k + 1)).flatMap (fun f => if mtch (putA few is c.b[i].a) f = true then goF c F R N i few is new f else [])).foldl fput out) (by repeat constructor) (by rw [flat_next (by omega), if_neg (by rw [g2]; decide), List.append_nil]) ?_
     refine go_back (k + 1) ⟨rfl, rfl, rfl, rfl, rfl, trivial⟩ (by repeat constructor) (by repeat constructor) (by omega) (by omega)
   ·intro g4
    refine go_finfold (c := c) (F := F) (R := R) (N := N) (out := ((F.take (k)).flatMap (fun f => if mtch (putA few is c.b[i].a) f = true then goF c F R N i few is new f else [])).foldl fput out) (by repeat constructor) (by repeat constructor) ?_
    refine go_finsame (out' := (F.flatMap (fun f => if mtch (putA few is c.b[i].a) f = true then goF c F R N i few is new f else [])).foldl fput out) (by repeat constructor) (by rw [List.take_of_length_le (by omega)]) ?_
    refine go_exit rfl ?_
    refine go_end ⟨rfl, rfl⟩ _ _ (res0 (by rfl)) ⟨rfl, rfl, by rw [hgo]⟩ (by repeat constructor) (by repeat constructor)

end Go.Proofs.YtkhddfknpegpmaaGreat.SL

/- Contracts of functions of the program (Law13c): what each call comes to, for the laws' proofs. -/
set_option linter.unusedVariables false
set_option linter.unusedSimpArgs false
namespace Go.Proofs.YtkhddfknpegpmaaGreat.SL
open Go 

theorem headsC_len {c : Cl} {F R N : List Fa} {some : Bool} {n : Nat} (h : (goL c F R N c.b ch0 (!some)).length ≤ n) : (headsC c F R N some).length ≤ n := by
  unfold headsC
  split
  · exact Nat.le_trans (fof_len _) h
  · simp
end Go.Proofs.YtkhddfknpegpmaaGreat.SL

/- Contracts of functions of the program (Reffj): what each call comes to, for the laws' proofs. -/
set_option linter.unusedVariables false
set_option linter.unusedSimpArgs false
namespace Go.Proofs.YtkhddfknpegpmaaGreat.SL
open Go 

theorem refFrom (c : Cl) (CA : Option Addr) (cc : Nat) (CB : Option Addr) (cd : Nat) (bX : Nat) (F : List Fa) (FA : Option Addr) (fc : Nat) (R : List Fa) (RA : Option Addr) (rc : Nat) (N : List Fa) (NA : Option Addr) (nc : Nat) (hR : RightC c) (hl : c.b.length ≤ 8) (lh : c.h.a.length ≤ 12) (lb : ∀ l ∈ c.b, l.a.a.length ≤ 12) : ∀ (n i : Nat) (few : List Int) (is : List Bool) (new : Bool) (out : List Fa) (hn : c.b.length - i = n) (hil : i ≤ c.b.length) (hf : few.length = 16) (hi : is.length = 16) (hd : domTo c (c.b.drop i) (few, is)) (ho : rises out) (hlen : out.length + (goL c F R N (c.b.drop i) (few, is) new).length ≤ 50000000),
    Spec Tryz.prog 35 #[.pointer (some ⟨bX, 0, none⟩), .int .i64 (i : Int), .agg (hc (few) (is) []).toArray, .bool (new)] [sl tTm CA cc c.h.a, sl tLi CB cd c.b, sl tFa FA fc F, sl tFa RA rc R, sl tFa NA nc N] [finO bX c CA cc CB cd F FA fc R RA rc N NA nc (out)] (fun v Ps' Os' => v = .tuple #[] ∧ Ps' = [] ∧ Os' = [finO bX c CA cc CB cd F FA fc R RA rc N NA nc ((goL c F R N (c.b.drop (i)) (few, is) (new)).foldl fput (out))])
  | 0, i, few, is, new, out, hn, hil, hf, hi, hd, ho, hlen => refFrom1 c CA cc CB cd bX F FA fc R RA rc N NA nc hR hl lh lb i few is new out hil hf hi hd ho hlen (fun h => absurd h (by omega))
  | n + 1, i, few, is, new, out, hn, hil, hf, hi, hd, ho, hlen => refFrom1 c CA cc CB cd bX F FA fc R RA rc N NA nc hR hl lh lb i few is new out hil hf hi hd ho hlen (fun h few' is' new' out' h1 h2 h3 h4 h5 h6 =>
      refFrom c CA cc CB cd bX F FA fc R RA rc N NA nc hR hl lh lb n (i + 1) few' is' new' out' (by omega) h1 h2 h3 h4 h5 h6)

set_option maxHeartbeats 2000000 in
set_option maxRecDepth 20000 in
theorem ref13Heads (c : Cl) (CA : Option Addr) (cc : Nat) (CB : Option Addr) (cd : Nat) (F : List Fa) (FA : Option Addr) (fc : Nat) (N : List Fa) (NA : Option Addr) (nc : Nat) (hok : c.ok) (hb : c.b.length ≤ 1000) (hlen : (goL c F [] N c.b ch0 true).length ≤ 50000000) :
    Spec Tryz.prog 12 #[.agg #[.int .u32 c.h.p, .slice CA c.h.a.length cc, .slice CB c.b.length cd], .slice FA F.length fc, .slice NA N.length nc] [sl tTm CA cc c.h.a, sl tLi CB cd c.b, sl tFa FA fc F, sl tFa NA nc N] [] (fun v Ps' Os' => ∃ A k, v = .slice A (headsC c F [] N false).length k ∧ Ps' = [sl tFa A k (headsC c F [] N false)] ∧ Os' = []) := by
 refine spec_of (fn := Tryz.f12) (args := [.agg #[.int .u32 c.h.p, .slice CA c.h.a.length cc, .slice CB c.b.length cd], .slice FA F.length fc, .slice NA N.length nc]) 23 Tryz.func12 rfl (by kernel_rfl) Tryz.ntmps12 (Nat.le_of_ble_eq_true rfl) (fun w0 hp0 hf0 => ?_)
 refine go_seq ?_
 refine go_region rfl ?_
 refine go_box Tk rfl rfl rfl rfl (by rfl) rfl rfl (fun h => nomatch h) ?_
 intro bC
 refine go_pure0 Tk rfl rfl rfl ?_
 refine go_nil ?_
 refine go_freeze_pt (b := bC) (by repeat constructor) ?_
 refine go_env [(1, _), (2, _), (3, _)] ⟨rfl, rfl, rfl, trivial⟩ ?_
 refine go_seq ?_
 refine go_seq ?_
 refine go_region rfl ?_
 refine go_val0 rfl (ldv Tk rfl rfl rfl) rfl ?_
 refine go_call (ref13right c CA cc CB cd hb) rfl rfl (by rfl) rfl (by repeat constructor) (by repeat constructor) (fun h => nomatch h) ?_
 rintro _ _ _ ⟨rfl, rfl, rfl⟩
 refine go_pure0 Tk rfl rfl rfl ?_
 refine go_nil ?_
 refine go_env [(1, _), (2, _), (3, _), (10, _)] ⟨rfl, rfl, rfl, rfl, trivial⟩ ?_
 refine go_cond rfl ?_ ?_
 ·intro g1
  (try simp only [decide_eq_true_eq, decide_eq_false_iff_not, Bool.not_eq_true', Bool.not_eq_false', Bool.not_eq_eq_eq_not, Bool.not_true, Bool.not_false, Int.not_lt, Int.not_le, beq_iff_eq, beq_eq_false_iff_ne, ne_eq] at g1)
  have hc0 : headsC c F [] N false = [] := headsC_not (by simpa using g1) _ _ _ _
  refine go_ent (sl tFa none 0 []) (fun h _ => Sl_nil tFa h) ?_
  refine go_seq ?_
  refine go_region rfl ?_
  refine go_pure0 Tk rfl rfl rfl ?_
  refine go_nil ?_
  refine go_env [(6, _)] ⟨rfl, trivial⟩ ?_
  refine go_ret ⟨rfl, rfl⟩ _ _ (res1 (by rfl) (.tmp rfl)) ⟨none, 0, by rw [hc0]; rfl, by rw [hc0], rfl⟩ (by repeat constructor) (by repeat constructor)
 ·intro g1
  (try simp only [decide_eq_true_eq, decide_eq_false_iff_not, Bool.not_eq_true', Bool.not_eq_false', Bool.not_eq_eq_eq_not, Bool.not_true, Bool.not_false, Int.not_lt, Int.not_le, beq_iff_eq, beq_eq_false_iff_ne, ne_eq] at g1)
  have g1' : (rightC [c]).2 = 0 := by simpa using g1
  obtain ⟨q1, q2, q3⟩ := right_one g1'
  obtain ⟨p1, p2, p3⟩ := mayC_of q1
  have hR := right_of q1 q2 hok
  refine go_ent (sl tFa none 0 []) (fun h _ => Sl_nil tFa h) ?_
  iterate 6 first | refine go_skip ?_ | refine go_seq ?_ | refine go_region rfl ?_ | refine go_val0 rfl (ldv Tk rfl rfl rfl) rfl ?_ | refine go_pure0 Tk rfl rfl rfl ?_
  refine go_val0 rfl (fun a w hp ho hf hs => build_val Tk rfl rfl rfl (by rfl) a w hf) rfl ?_
  refine go_box Tk rfl rfl rfl rfl (by rfl) rfl rfl (fun h => nomatch h) ?_
  intro bX
  refine go_pure0 Tk rfl rfl rfl ?_
  refine go_nil ?_
  refine go_finfold (c := c) (F := F) (R := []) (N := N) (out := []) (by repeat constructor) (by repeat constructor) ?_
  refine go_env [(7, _)] ⟨rfl, trivial⟩ ?_
  refine go_seq ?_
  refine go_region rfl ?_
  refine go_pure0 Tk rfl rfl rfl ?_
  refine go_val0 rfl (fun a w hp ho hf hs => build_val Tk rfl rfl rfl (by rfl) a w hf) rfl ?_
  refine go_re 17 (.agg (hc (List.replicate 16 0) (List.replicate 16 false) []).toArray) (by rfl) ?_
  refine go_call (refFrom c CA cc CB cd bX F FA fc [] none 0 N NA nc hR p1 (Nat.le_trans (may_len6 p2) (by omega)) (fun l hl => Nat.le_trans (may_len6 (p3 l hl)) (by omega)) (c.b.length - 0) 0 (List.replicate 16 0) (List.replicate 16 false) true [] rfl (by omega) (by simp) (by simp) (domTo.start c) rises_nil (by show 0 + _ ≤ _; rw [Nat.zero_add]; exact hlen)) rfl rfl (by rfl) rfl (by repeat constructor) (by repeat constructor) (fun h => nomatch h) ?_
  rintro _ _ _ ⟨rfl, rfl, rfl⟩
  refine go_nil ?_
  refine go_env [(7, _)] ⟨rfl, trivial⟩ ?_
  refine go_seq ?_
  refine go_finsame (out' := headsC c F [] N false) (by repeat constructor) (by unfold headsC; rw [if_pos g1']; rfl) ?_
  refine go_fin (bX := bX) (by repeat constructor) (fun A9 k9 => ?_)
  iterate 6 first | refine go_region rfl ?_ | refine go_pure0 Tk rfl rfl rfl ?_ | refine go_val0 rfl (ldv Tk rfl rfl rfl) rfl ?_
  refine go_nil ?_
  refine go_env [(6, _)] ⟨rfl, trivial⟩ ?_
  refine go_ret ⟨rfl, rfl⟩ _ _ (res1 (by rfl) (.tmp rfl)) ⟨A9, k9, rfl, rfl, rfl⟩ (by repeat constructor) (by repeat constructor)

end Go.Proofs.YtkhddfknpegpmaaGreat.SL

/- Contracts of functions of the program (Law14b): what each call comes to, for the laws' proofs. -/
set_option linter.unusedVariables false
set_option linter.unusedSimpArgs false
namespace Go.Proofs.YtkhddfknpegpmaaGreat.SL
open Go 

set_option maxHeartbeats 2000000 in
set_option maxRecDepth 20000 in
theorem ref14right (l : List Cl) (LA : Option Addr) (lc : Nat) (hb : ∀ c ∈ l, c.b.length ≤ 1000) :
    Spec Tryz.prog 43 #[.slice LA l.length lc] [sl tCl LA lc l] [] (fun v Ps' Os' => v = .bool (fixR l) ∧ Ps' = [] ∧ Os' = []) := by
 refine spec_of (fn := Tryz.f43) (args := [.slice LA l.length lc]) 65 Tryz.func43 rfl (by kernel_rfl) Tryz.ntmps43 (Nat.le_of_ble_eq_true rfl) (fun w0 hp0 hf0 => ?_)
 refine go_seq ?_
 refine go_region rfl ?_
 refine go_pure0 Tk rfl rfl rfl ?_
 refine go_nil ?_
 refine go_env [(0, _)] ⟨rfl, trivial⟩ ?_
 refine go_seq ?_
 refine go_region rfl ?_
 refine go_pure0 Tk rfl rfl rfl ?_
 refine go_call (ref11Right LA lc l hb) rfl rfl (by rfl) rfl (by repeat constructor) (by repeat constructor) (fun h => nomatch h) ?_
 rintro _ _ _ ⟨rfl, rfl, rfl⟩
 iterate 5 refine go_pure0 Tk rfl rfl rfl ?_
 refine go_nil ?_
 refine go_env [(0, _), (4, _)] ⟨rfl, rfl, trivial⟩ ?_
 iterate 5 first | refine go_seq ?_ | refine go_region rfl ?_ | refine go_pure0 Tk rfl rfl rfl ?_
 refine go_nil ?_
 refine go_env [(0, _), (14, _)] ⟨rfl, rfl, trivial⟩ ?_
 refine go_condN rfl ?_ ?_
 ·intro g1
  refine go_seq ?_
  refine go_region rfl ?_
  refine go_pure0 Tk rfl rfl rfl ?_
  refine go_nil ?_
  refine go_env [(2, _)] ⟨rfl, trivial⟩ ?_
  refine go_ret ⟨rfl, rfl⟩ _ _ (res1 (by rfl) (.tmp rfl)) ⟨by rw [show fixR l = false from decide_eq_false (fun q => g1 q.1)], rfl, rfl⟩ (by repeat constructor) (by repeat constructor)
 ·intro g1
  iterate 3 first | refine go_skip ?_ | refine go_seq ?_
  refine go_len (xs := l) (by repeat constructor) (fun l0 m0 => ?_)
  refine go_region rfl ?_
  refine go_pure0 Tk rfl rfl rfl ?_
  refine go_nil ?_
  refine go_env [(0, _), (5, _)] ⟨rfl, rfl, trivial⟩ ?_
  refine go_block ?_
  refine go_loop' (X := Nat) (fun i => [(5, .int .i64 (i : Int))]) [(0, _)] (fun _ => []) (fun i => i ≤ l.length ∧ ∀ c ∈ l.take i, ∀ x ∈ c.b, x.no = true → ∀ d ∈ l, ¬ d.h.p = x.a.p) (fun i => l.length - i) (0) ⟨rfl, rfl, trivial⟩ (by repeat constructor) ⟨by omega, by simp⟩ ?_
  intro i ⟨hi, hz⟩
  iterate 7 first | refine go_seq ?_ | refine go_region rfl ?_ | refine go_pure0 Tk rfl rfl rfl ?_
  refine go_nil ?_
  refine go_env [(0, _), (5, _), (18, _)] ⟨rfl, rfl, rfl, trivial⟩ ?_
  refine go_condD rfl ?_ ?_
  ·intro hq1
   iterate 4 first | refine go_skip ?_ | refine go_seq ?_ | refine go_block ?_
   refine go_elem_cl (xs := l) (by repeat constructor) (i) (List.getElem?_eq_getElem (by omega)) (fun b1 o1 A1 c1 B1 d1 hA => ?_); cases hA
   refine go_len (xs := l[i].b) (by repeat constructor) (fun l1 m1 => ?_)
   refine go_region rfl ?_
   refine go_pure0 Tk rfl rfl rfl ?_
   refine go_nil ?_
   refine go_env [(0, _), (5, _), (6, _)] ⟨rfl, rfl, rfl, trivial⟩ ?_
   refine go_block ?_
   refine go_loop' (X := Nat) (fun j => [(6, .int .i64 (j : Int))]) [(0, _), (5, _)] (fun _ => []) (fun j => j ≤ l[i].b.length ∧ ∀ x ∈ l[i].b.take j, x.no = true → ∀ d ∈ l, ¬ d.h.p = x.a.p) (fun j => l[i].b.length - j) (0) ⟨rfl, rfl, rfl, trivial⟩ (by repeat constructor) ⟨by omega, by simp⟩ ?_
   intro j ⟨hj, hy⟩
   iterate 6 first | refine go_seq ?_ | refine go_region rfl ?_ | refine go_pure0 Tk rfl rfl rfl ?_
   refine go_val0 rfl (idx_val Tk rfl rfl rfl rfl rfl (by omega)) rfl ?_
   iterate 4 first | refine go_pure0 Tk rfl rfl rfl ?_ | refine go_val0 rfl (ldv Tk rfl rfl rfl) rfl ?_
   refine go_nil ?_
   refine go_env [(0, _), (5, _), (6, _), (28, _)] ⟨rfl, rfl, rfl, rfl, trivial⟩ ?_
   refine go_condD rfl ?_ ?_
   ·intro hq2
    iterate 4 first | refine go_skip ?_ | refine go_seq ?_ | refine go_block ?_
    refine go_elem_li (xs := l[i].b) (by repeat constructor) (j) (List.getElem?_eq_getElem (by omega)) (fun b3 o3 A3 c3 hA => ?_); cases hA
    refine go_region rfl ?_
    refine go_pure0 Tk rfl rfl rfl ?_
    refine go_nil ?_
    refine go_env [(0, _), (5, _), (6, _), (7, _)] ⟨rfl, rfl, rfl, rfl, trivial⟩ ?_
    refine go_block ?_
    refine go_loop' (X := Nat) (fun m => [(7, .int .i64 (m : Int))]) [(0, _), (5, _), (6, _)] (fun _ => []) (fun m => m ≤ l.length ∧ (l[i].b[j].no = true → ∀ d ∈ l.take m, ¬ d.h.p = l[i].b[j].a.p)) (fun m => l.length - m) (0) ⟨rfl, rfl, rfl, rfl, trivial⟩ (by repeat constructor) ⟨by omega, by simp⟩ ?_
    intro m ⟨hm, hw⟩
    iterate 8 first | refine go_seq ?_ | refine go_region rfl ?_ | refine go_pure0 Tk rfl rfl rfl ?_
    refine go_known 35 rfl ?_ ?_
    ·intro g2
     (try simp only [decide_eq_true_eq, decide_eq_false_iff_not, Bool.not_eq_true', Bool.not_eq_false', Bool.not_eq_eq_eq_not, Bool.not_true, Bool.not_false, Int.not_lt, Int.not_le, beq_iff_eq, beq_eq_false_iff_ne, ne_eq] at g2)
     iterate 2 refine go_pure0 Tk rfl rfl rfl ?_
     refine go_val0 rfl (idx_val Tk rfl rfl rfl rfl rfl (by omega)) rfl ?_
     iterate 3 first | refine go_pure0 Tk rfl rfl rfl ?_ | refine go_val0 rfl (ldv Tk rfl rfl rfl) rfl ?_
     refine go_val0 rfl (idx_val Tk rfl rfl rfl rfl rfl (by omega)) rfl ?_
     iterate 3 first | refine go_pure0 Tk rfl rfl rfl ?_ | refine go_val0 rfl (ldv Tk rfl rfl rfl) rfl ?_
     refine go_nil ?_
     refine go_env [(0, _), (5, _), (6, _), (7, _), (36, _), (37, _), (38, _), (39, _), (40, _), (41, _), (42, _), (43, _), (44, _), (45, _)] ⟨rfl, rfl, rfl, rfl, rfl, rfl, rfl, rfl, rfl, rfl, rfl, rfl, rfl, rfl, trivial⟩ ?_
     refine go_cond rfl ?_ ?_
     ·intro g3
      (try simp only [decide_eq_true_eq, decide_eq_false_iff_not, Bool.not_eq_true', Bool.not_eq_false', Bool.not_eq_eq_eq_not, Bool.not_true, Bool.not_false, Int.not_lt, Int.not_le, beq_iff_eq, beq_eq_false_iff_ne, ne_eq] at g3)
      iterate 4 first | refine go_skip ?_ | refine go_seq ?_ | refine go_block ?_
      refine go_elem_cl (xs := l) (by repeat constructor) (m) (List.getElem?_eq_getElem (by omega)) (fun b4 o4 A4 c4 B4 d4 hA => ?_); cases hA
      refine go_draw ([cl b1 (o1 + m * 3) [.int .u32 l[m].h.p, .slice A4 l[m].h.a.length c4, .slice B4 l[m].b.length d4], cl b1 (o1 + i * 3) [.int .u32 l[i].h.p, .slice A1 l[i].h.a.length c1, .slice (some ⟨b3, o3, none⟩) l[i].b.length d1], cl b3 (o3 + j * 3) [.bool l[i].b[j].no, .int .u32 l[i].b[j].a.p, .slice A3 l[i].b[j].a.a.length c3]]) ([]) [5, 10, 15] (SL.pre [(1, 0), (1, 1), (1, 2), (1, 3), (1, 4), (1, 6), (1, 7), (1, 8), (1, 9), (1, 11), (2, 5), (2, 10), (1, 12), (1, 13), (1, 14), (2, 15), (1, 16)] .nil) mixed rfl (by kernel_rfl) ?_
      iterate 2 refine go_pure1 Tk rfl rfl rfl ?_
      refine go_val1 rfl (idx_val Tk rfl rfl rfl rfl rfl (by omega)) rfl ?_
      iterate 4 refine go_pure1 Tk rfl rfl rfl ?_
      refine go_val1 rfl (idx_val Tk rfl rfl rfl rfl rfl (by omega)) rfl ?_
      iterate 4 first | refine go_pure1 Tk rfl rfl rfl ?_ | refine go_val2a rfl (ldv Tk rfl rfl rfl) rfl ?_
      refine go_val1 rfl (idx_val Tk rfl rfl rfl rfl rfl (by omega)) rfl ?_
      iterate 4 first | refine go_pure1 Tk rfl rfl rfl ?_ | refine go_val2a rfl (ldv Tk rfl rfl rfl) rfl ?_
      refine go_nil ?_
      refine go_env [(0, _), (5, _), (6, _), (7, _), (36, _), (37, _), (38, _), (39, _), (40, _), (41, _), (42, _), (43, _), (44, _), (64, _)] ⟨rfl, rfl, rfl, rfl, rfl, rfl, rfl, rfl, rfl, rfl, rfl, rfl, rfl, rfl, trivial⟩ ?_
      refine go_condD rfl ?_ ?_
      ·intro g4
       refine go_seq ?_
       refine go_region rfl ?_
       refine go_pure0 Tk rfl rfl rfl ?_
       refine go_nil ?_
       refine go_env [(2, _)] ⟨rfl, trivial⟩ ?_
       refine go_ret ⟨rfl, rfl⟩ _ _ (res1 (by rfl) (.tmp rfl)) ⟨by rw [show fixR l = false from decide_eq_false (fun q => q.2 l[i] (List.getElem_mem _) _ (List.getElem_mem _) g3 l[m] (List.getElem_mem _) g4)], rfl, rfl⟩ (by repeat constructor) (by repeat constructor)
      ·intro g4
       refine go_skip ?_
       refine go_blk ?_
       iterate 4 first | refine go_region rfl ?_ | refine go_pure0 Tk rfl rfl rfl ?_
       refine go_nil ?_
       refine go_i64 7 rfl (by omega) (by omega) ?_
       refine go_back (m + 1) ⟨rfl, rfl, rfl, rfl, trivial⟩ (by repeat constructor) (by repeat constructor) (⟨by omega, fun q => mem_take_next (by omega) (hw q) g4⟩) (by omega)
     ·intro g3
      (try simp only [decide_eq_true_eq, decide_eq_false_iff_not, Bool.not_eq_true', Bool.not_eq_false', Bool.not_eq_eq_eq_not, Bool.not_true, Bool.not_false, Int.not_lt, Int.not_le, beq_iff_eq, beq_eq_false_iff_ne, ne_eq] at g3)
      refine go_exit rfl ?_
      refine go_blk ?_
      iterate 4 first | refine go_region rfl ?_ | refine go_pure0 Tk rfl rfl rfl ?_
      refine go_nil ?_
      refine go_i64 6 rfl (by omega) (by omega) ?_
      refine go_back (j + 1) ⟨rfl, rfl, rfl, trivial⟩ (by repeat constructor) (by repeat constructor) (⟨by omega, mem_take_next (by omega) hy (fun q => by first | exact absurd (g3.symm.trans q) (by decide) | (rw [List.take_of_length_le (by omega)] at hw; exact hw q))⟩) (by omega)
    ·intro g2
     (try simp only [decide_eq_true_eq, decide_eq_false_iff_not, Bool.not_eq_true', Bool.not_eq_false', Bool.not_eq_eq_eq_not, Bool.not_true, Bool.not_false, Int.not_lt, Int.not_le, beq_iff_eq, beq_eq_false_iff_ne, ne_eq] at g2)
     iterate 10 first | refine go_skip0 rfl rfl ?_ | refine go_pure0 Tk rfl rfl rfl ?_
     refine go_nil ?_
     refine go_env [(0, _), (5, _), (6, _), (7, _), (36, _), (37, _), (38, _), (39, _), (40, _), (41, _), (42, _), (43, _), (44, _), (45, _)] ⟨rfl, rfl, rfl, rfl, rfl, rfl, rfl, rfl, rfl, rfl, rfl, rfl, rfl, rfl, trivial⟩ ?_
     refine go_cond_f rfl ?_
     refine go_exit rfl ?_
     refine go_blk ?_
     iterate 4 first | refine go_region rfl ?_ | refine go_pure0 Tk rfl rfl rfl ?_
     refine go_nil ?_
     refine go_i64 6 rfl (by omega) (by omega) ?_
     refine go_back (j + 1) ⟨rfl, rfl, rfl, trivial⟩ (by repeat constructor) (by repeat constructor) (⟨by omega, mem_take_next (by omega) hy (fun q => by first | exact absurd (g3.symm.trans q) (by decide) | (rw [List.take_of_length_le (by omega)] at hw; exact hw q))⟩) (by omega)
   ·intro hq2
    refine go_exit rfl ?_
    refine go_blk ?_
    iterate 4 first | refine go_region rfl ?_ | refine go_pure0 Tk rfl rfl rfl ?_
    refine go_nil ?_
    refine go_i64 5 rfl (by omega) (by omega) ?_
    refine go_back (i + 1) ⟨rfl, rfl, trivial⟩ (by repeat constructor) (by repeat constructor) (⟨by omega, mem_take_next (by omega) hz (by rw [List.take_of_length_le (by omega)] at hy; exact hy)⟩) (by omega)
  ·intro hq1
   refine go_exit rfl ?_
   refine go_seq ?_
   refine go_region rfl ?_
   refine go_pure0 Tk rfl rfl rfl ?_
   refine go_nil ?_
   refine go_env [(2, _)] ⟨rfl, trivial⟩ ?_
   refine go_ret ⟨rfl, rfl⟩ _ _ (res1 (by rfl) (.tmp rfl)) ⟨by rw [show fixR l = true from decide_eq_true ⟨by simpa using g1, fun c hc => by rw [List.take_of_length_le (by omega)] at hz; exact hz c hc⟩], rfl, rfl⟩ (by repeat constructor) (by repeat constructor)

theorem flatMap_le {α β : Type} {l : List α} {g : α → List β} {n : Nat} (h : ∀ x ∈ l, (g x).length ≤ n) : (l.flatMap g).length ≤ l.length * n := by
  induction l with
  | nil => simp
  | cons x l ih =>
    rw [List.flatMap_cons, List.length_append, List.length_cons, Nat.add_mul, Nat.one_mul]
    have := h x (.head _)
    have := ih fun y hy => h y (.tail _ hy)
    omega

set_option maxHeartbeats 4000000 in
set_option maxRecDepth 20000 in
theorem ref14Least (l : List Cl) (LA : Option Addr) (lc : Nat) (a : List Fa) (A : Option Addr) (ka : Nat) (most : Int) (hl : ∀ c ∈ l, c.ok) (hb : ∀ c ∈ l, c.b.length ≤ 1000) (hll : l.length ≤ 20) (ha : a.length ≤ 60) (hm : most ≤ 60) (hbig : ∀ c ∈ l, ∀ F : List Fa, F.length ≤ 60 → (goL c F [] (fof a) c.b ch0 true).length ≤ 216000) :
    Spec Tryz.prog 17 #[.slice LA l.length lc, .slice A a.length ka, .int .i64 most] [sl tCl LA lc l, sl tFa A ka a] [] (fun v Ps' Os' => ∃ b e A' k', RefL l (fof a) most b e ∧ v = .tuple #[.slice A' b.length k', .int .i64 e] ∧ Ps' = [sl tFa A' k' b] ∧ Os' = []) := by
 refine spec_of (fn := Tryz.f17) (args := [.slice LA l.length lc, .slice A a.length ka, .int .i64 most]) 61 Tryz.func17 rfl (by kernel_rfl) Tryz.ntmps17 (Nat.le_of_ble_eq_true rfl) (fun w0 hp0 hf0 => ?_)
 iterate 4 first | refine go_seq ?_ | refine go_region rfl ?_ | refine go_pure0 Tk rfl rfl rfl ?_
 refine go_nil ?_
 refine go_env [(0, _), (1, _), (2, _)] ⟨rfl, rfl, rfl, trivial⟩ ?_
 refine go_seq ?_
 refine go_seq ?_
 refine go_region rfl ?_
 refine go_pure0 Tk rfl rfl rfl ?_
 refine go_call (ref14right l LA lc hb) rfl rfl (by rfl) rfl (by repeat constructor) (by repeat constructor) (fun h => nomatch h) ?_
 rintro _ _ _ ⟨rfl, rfl, rfl⟩
 iterate 2 refine go_pure0 Tk rfl rfl rfl ?_
 refine go_known 17 rfl ?_ ?_
 ·intro g1
  (try simp only [decide_eq_true_eq, decide_eq_false_iff_not, Bool.not_eq_true', Bool.not_eq_false', Bool.not_eq_eq_eq_not, Bool.not_true, Bool.not_false, Int.not_lt, Int.not_le, beq_iff_eq, beq_eq_false_iff_ne, ne_eq] at g1)
  iterate 3 first | refine go_skip0 rfl rfl ?_ | refine go_pure0 Tk rfl rfl rfl ?_
  refine go_nil ?_
  refine go_env [(0, _), (1, _), (2, _), (20, _)] ⟨rfl, rfl, rfl, rfl, trivial⟩ ?_
  refine go_cond_t rfl ?_
  refine go_seq ?_
  refine go_ent (sl tFa none 0 []) (fun h _ => Sl_nil tFa h) ?_
  iterate 3 first | refine go_region rfl ?_ | refine go_pure0 Tk rfl rfl rfl ?_
  refine go_nil ?_
  refine go_env [(6, _), (7, _)] ⟨rfl, rfl, trivial⟩ ?_
  refine go_ret ⟨rfl, rfl⟩ _ _ (res2 (by rfl) (.tmp rfl) (.tmp rfl)) ⟨[], 1, none, 0, .arg (.inr g1), rfl, rfl, rfl⟩ (by repeat constructor) (by repeat constructor)
 ·intro g1
  (try simp only [decide_eq_true_eq, decide_eq_false_iff_not, Bool.not_eq_true', Bool.not_eq_false', Bool.not_eq_eq_eq_not, Bool.not_true, Bool.not_false, Int.not_lt, Int.not_le, beq_iff_eq, beq_eq_false_iff_ne, ne_eq] at g1)
  iterate 3 refine go_pure0 Tk rfl rfl rfl ?_
  refine go_nil ?_
  refine go_env [(0, _), (1, _), (2, _), (20, _)] ⟨rfl, rfl, rfl, rfl, trivial⟩ ?_
  refine go_cond rfl ?_ ?_
  ·intro g2
   (try simp only [decide_eq_true_eq, decide_eq_false_iff_not, Bool.not_eq_true', Bool.not_eq_false', Bool.not_eq_eq_eq_not, Bool.not_true, Bool.not_false, Int.not_lt, Int.not_le, beq_iff_eq, beq_eq_false_iff_ne, ne_eq] at g2)
   refine go_seq ?_
   refine go_ent (sl tFa none 0 []) (fun h _ => Sl_nil tFa h) ?_
   iterate 3 first | refine go_region rfl ?_ | refine go_pure0 Tk rfl rfl rfl ?_
   refine go_nil ?_
   refine go_env [(6, _), (7, _)] ⟨rfl, rfl, trivial⟩ ?_
   refine go_ret ⟨rfl, rfl⟩ _ _ (res2 (by rfl) (.tmp rfl) (.tmp rfl)) ⟨[], 1, none, 0, .arg (.inl g2), rfl, rfl, rfl⟩ (by repeat constructor) (by repeat constructor)
  ·intro g2
   (try simp only [decide_eq_true_eq, decide_eq_false_iff_not, Bool.not_eq_true', Bool.not_eq_false', Bool.not_eq_eq_eq_not, Bool.not_true, Bool.not_false, Int.not_lt, Int.not_le, beq_iff_eq, beq_eq_false_iff_ne, ne_eq] at g2)
   refine go_skip ?_
   refine go_seq ?_
   have g2' : 0 ≤ most := by omega
   refine go_region rfl ?_
   refine go_pure0 Tk rfl rfl rfl ?_
   refine go_call (ref13Sorted A ka a (by omega)) rfl rfl (by rfl) rfl (by repeat constructor) (by repeat constructor) (fun h => nomatch h) ?_
   rintro _ _ _ ⟨AN, kN, rfl, rfl, rfl⟩
   refine go_pure0 Tk rfl rfl rfl ?_
   refine go_nil ?_
   refine go_env [(0, _), (2, _), (8, _)] ⟨rfl, rfl, rfl, trivial⟩ ?_
   iterate 4 first | refine go_seq ?_ | refine go_region rfl ?_ | refine go_pure0 Tk rfl rfl rfl ?_
   refine go_nil ?_
   refine go_re 9 (.slice AN (Sq l (fof a) 0).length kN) (by rfl) ?_
   have hS0 : (Sq l (fof a) 0).length ≤ 60 := Nat.le_trans (fof_len a) ha
   refine go_sl (sl tFa AN kN (fof a)) (sl tFa AN kN (Sq l (fof a) 0)) (by repeat constructor) (fun _ h => h) ?_
   refine go_env [(0, _), (2, _), (8, _), (9, _)] ⟨rfl, rfl, rfl, rfl, trivial⟩ ?_
   refine go_block ?_
   refine go_loop (X := Nat × Option Addr × Nat) (fun x => [(9, .slice x.2.1 (Sq l (fof a) x.1).length x.2.2)]) [(0, _), (2, _), (8, _)] (fun x => [sl tFa x.2.1 x.2.2 (Sq l (fof a) x.1), sl tCl LA lc l, sl tFa A ka a, sl tFa AN kN (fof a)]) (fun _ => []) (fun x => (Sq l (fof a) x.1).length ≤ 60 ∧ ∀ j < x.1, ¬ nx l (fof a) (Sq l (fof a) j) = []) (fun x => 61 - (Sq l (fof a) x.1).length) ((0, AN, kN)) ⟨rfl, rfl, rfl, rfl, trivial⟩ (by repeat constructor) (by repeat constructor) ⟨hS0, fun j hj => absurd hj (Nat.not_lt_zero j)⟩ ?_
   intro ⟨k, AS, kS⟩ ⟨hkS, hkn⟩
   simp only at hkS hkn ⊢
   have hrS := rises_Sq (l := l) (rises_fof a) k
   have hlenS := Sq_len l (fof a) k
   refine go_block ?_
   refine go_seq ?_
   skip
   iterate 3 first | refine go_region rfl ?_ | refine go_pure0 Tk rfl rfl rfl ?_
   refine go_nil ?_
   refine go_env [(0, _), (2, _), (8, _), (9, _), (10, _)] ⟨rfl, rfl, rfl, rfl, rfl, trivial⟩ ?_
   iterate 2 refine go_seq ?_
   refine go_len (xs := l) (by repeat constructor) (fun l0 m0 => ?_)
   have hhl : ∀ c ∈ l, (headsC c (Sq l (fof a) k) [] (fof a) false).length ≤ 216000 := fun c hc => headsC_len (hbig c hc _ hkS)
   have hxl : ∀ i, (((l.take (i)).flatMap (fun c => headsC c (Sq l (fof a) k) [] (fof a) false))).length ≤ i * 216000 := fun i => by
     exact Nat.le_trans (flatMap_le (n := 216000) (fun c hc => hhl c (List.mem_of_mem_take hc))) (Nat.mul_le_mul_right _ (by rw [List.length_take]; omega))
   refine go_region rfl ?_
   refine go_pure0 Tk rfl rfl rfl ?_
   refine go_nil ?_
   refine go_re 10 (.slice AS (((l.take (0)).flatMap (fun c => headsC c (Sq l (fof a) k) [] (fof a) false)).foldl fput (Sq l (fof a) k)).length kS) (by rfl) ?_
   refine go_sl (sl tFa AS kS (Sq l (fof a) k)) (sl tFa AS kS (((l.take (0)).flatMap (fun c => headsC c (Sq l (fof a) k) [] (fof a) false)).foldl fput (Sq l (fof a) k))) (by repeat constructor) (fun _ h => h) ?_
   refine go_env [(0, _), (2, _), (8, _), (9, _), (10, _), (11, _)] ⟨rfl, rfl, rfl, rfl, rfl, rfl, trivial⟩ ?_
   refine go_block ?_
   refine go_loop (X := Nat × Option Addr × Nat) (fun x => [(10, .slice x.2.1 (((l.take (x.1)).flatMap (fun c => headsC c (Sq l (fof a) k) [] (fof a) false)).foldl fput (Sq l (fof a) k)).length x.2.2), (11, .int .i64 (x.1 : Int))]) [(0, _), (2, _), (8, _), (9, _)] (fun x => [sl tFa x.2.1 x.2.2 (((l.take (x.1)).flatMap (fun c => headsC c (Sq l (fof a) k) [] (fof a) false)).foldl fput (Sq l (fof a) k)), sl tFa AS kS (Sq l (fof a) k), sl tCl LA lc l, sl tFa A ka a, sl tFa AN kN (fof a)]) (fun _ => []) (fun x => x.1 ≤ l.length) (fun x => l.length - x.1) ((0, AS, kS)) ⟨rfl, rfl, rfl, rfl, rfl, rfl, trivial⟩ (by repeat constructor) (by repeat constructor) (by omega) ?_
   intro ⟨i, A7, k7⟩ hi
   simp only at hi ⊢
   iterate 7 first | refine go_seq ?_ | refine go_region rfl ?_ | refine go_pure0 Tk rfl rfl rfl ?_
   refine go_nil ?_
   refine go_env [(0, _), (2, _), (8, _), (9, _), (10, _), (11, _), (28, _)] ⟨rfl, rfl, rfl, rfl, rfl, rfl, rfl, trivial⟩ ?_
   refine go_condD rfl ?_ ?_
   ·intro hq1
    iterate 4 first | refine go_skip ?_ | refine go_seq ?_ | refine go_block ?_
    refine go_elem_cl (xs := l) (by repeat constructor) (i) (List.getElem?_eq_getElem (by omega)) (fun b1 o1 A1 c1 B1 d1 hA => ?_); cases hA
    iterate 3 first | refine go_region rfl ?_ | refine go_pure0 Tk rfl rfl rfl ?_
    refine go_val0 rfl (idx_val Tk rfl rfl rfl rfl rfl (by omega)) rfl ?_
    iterate 3 first | refine go_val0 rfl (ldv Tk rfl rfl rfl) rfl ?_ | refine go_pure0 Tk rfl rfl rfl ?_
    refine go_call (ref13Heads l[i] A1 c1 B1 d1 (Sq l (fof a) k) AS kS (fof a) AN kN (hl _ (List.getElem_mem _)) (hb _ (List.getElem_mem _)) (Nat.le_trans (hbig _ (List.getElem_mem _) _ hkS) (by omega))) rfl rfl (by rfl) rfl (by repeat constructor) (by repeat constructor) (fun h => nomatch h) ?_
    rintro _ _ _ ⟨AH, kH, rfl, rfl, rfl⟩
    refine go_pure0 Tk rfl rfl rfl ?_
    refine go_nil ?_
    refine go_env [(0, _), (2, _), (8, _), (9, _), (10, _), (11, _), (12, _)] ⟨rfl, rfl, rfl, rfl, rfl, rfl, rfl, trivial⟩ ?_
    refine go_seq ?_
    refine go_len (xs := headsC l[i] (Sq l (fof a) k) [] (fof a) false) (by repeat constructor) (fun l2 m2 => ?_)
    have hhi := hhl l[i] (List.getElem_mem _)
    have hxi := hxl i
    refine go_region rfl ?_
    refine go_pure0 Tk rfl rfl rfl ?_
    refine go_nil ?_
    refine go_re 10 (.slice A7 (((l.take (i)).flatMap (fun c => headsC c (Sq l (fof a) k) [] (fof a) false) ++ (headsC l[i] (Sq l (fof a) k) [] (fof a) false).take (0)).foldl fput (Sq l (fof a) k)).length k7) (by show some (Value.slice _ _ _) = _; rw [List.take_zero, List.append_nil]) ?_
    refine go_sl (sl tFa A7 k7 (((l.take (i)).flatMap (fun c => headsC c (Sq l (fof a) k) [] (fof a) false)).foldl fput (Sq l (fof a) k))) (sl tFa A7 k7 (((l.take (i)).flatMap (fun c => headsC c (Sq l (fof a) k) [] (fof a) false) ++ (headsC l[i] (Sq l (fof a) k) [] (fof a) false).take (0)).foldl fput (Sq l (fof a) k))) (by repeat constructor) (fun _ h => by rw [List.take_zero, List.append_nil]; exact h) ?_
    refine go_env [(0, _), (2, _), (8, _), (9, _), (10, _), (11, _), (12, _), (13, _)] ⟨rfl, rfl, rfl, rfl, rfl, rfl, rfl, rfl, trivial⟩ ?_
    refine go_block ?_
    refine go_loop (X := Nat × Option Addr × Nat) (fun x => [(10, .slice x.2.1 (((l.take (i)).flatMap (fun c => headsC c (Sq l (fof a) k) [] (fof a) false) ++ (headsC l[i] (Sq l (fof a) k) [] (fof a) false).take (x.1)).foldl fput (Sq l (fof a) k)).length x.2.2), (13, .int .i64 (x.1 : Int))]) [(0, _), (2, _), (8, _), (9, _), (11, _), (12, _)] (fun x => [sl tFa x.2.1 x.2.2 (((l.take (i)).flatMap (fun c => headsC c (Sq l (fof a) k) [] (fof a) false) ++ (headsC l[i] (Sq l (fof a) k) [] (fof a) false).take (x.1)).foldl fput (Sq l (fof a) k)), sl tFa AH kH (headsC l[i] (Sq l (fof a) k) [] (fof a) false), sl tFa AS kS (Sq l (fof a) k), sl tCl (some ⟨b1, o1, none⟩) lc l, sl tFa A ka a, sl tFa AN kN (fof a)]) (fun _ => []) (fun x => x.1 ≤ (headsC l[i] (Sq l (fof a) k) [] (fof a) false).length) (fun x => (headsC l[i] (Sq l (fof a) k) [] (fof a) false).length - x.1) ((0, A7, k7)) ⟨rfl, rfl, rfl, rfl, rfl, rfl, rfl, rfl, trivial⟩ (by repeat constructor) (by repeat constructor) (by omega) ?_
    intro ⟨j, A8, k8⟩ hj
    simp only at hj ⊢
    have hul := foldl_flen ((l.take (i)).flatMap (fun c => headsC c (Sq l (fof a) k) [] (fof a) false) ++ (headsC l[i] (Sq l (fof a) k) [] (fof a) false).take (j)) (Sq l (fof a) k)
    have hxs : ((l.take (i)).flatMap (fun c => headsC c (Sq l (fof a) k) [] (fof a) false) ++ (headsC l[i] (Sq l (fof a) k) [] (fof a) false).take (j)) = ((l.take (i)).flatMap (fun c => headsC c (Sq l (fof a) k) [] (fof a) false)) ++ (headsC l[i] (Sq l (fof a) k) [] (fof a) false).take j := rfl
    rw [List.length_append, List.length_take] at hul
    iterate 7 first | refine go_seq ?_ | refine go_region rfl ?_ | refine go_pure0 Tk rfl rfl rfl ?_
    refine go_nil ?_
    refine go_env [(0, _), (2, _), (8, _), (9, _), (10, _), (11, _), (12, _), (13, _), (41, _)] ⟨rfl, rfl, rfl, rfl, rfl, rfl, rfl, rfl, rfl, trivial⟩ ?_
    refine go_condD rfl ?_ ?_
    ·intro g7
     refine go_skip ?_
     refine go_seq ?_
     refine go_block ?_
     refine go_elem_fa (xs := headsC l[i] (Sq l (fof a) k) [] (fof a) false) (by repeat constructor) (j) (List.getElem?_eq_getElem (by omega)) (fun b3 o3 A3 c3 hA => ?_); cases hA
     iterate 4 first | refine go_region rfl ?_ | refine go_pure0 Tk rfl rfl rfl ?_
     refine go_val0 rfl (idx_val Tk rfl rfl rfl rfl rfl (by omega)) rfl ?_
     refine go_val0 rfl (ldv Tk rfl rfl rfl) rfl ?_
     refine go_call (ref13With A8 k8 (((l.take (i)).flatMap (fun c => headsC c (Sq l (fof a) k) [] (fof a) false) ++ (headsC l[i] (Sq l (fof a) k) [] (fof a) false).take (j)).foldl fput (Sq l (fof a) k)) (headsC l[i] (Sq l (fof a) k) [] (fof a) false)[j] A3 c3 (foldl_rises _ _ hrS) (by have : i * 216000 ≤ 20 * 216000 := Nat.mul_le_mul_right _ (by omega); omega)) rfl rfl (by rfl) rfl (by repeat constructor) (by repeat constructor) (fun h => nomatch h) ?_
     rintro _ _ _ ⟨A6, k6, rfl, rfl, rfl⟩
     refine go_pure0 Tk rfl rfl rfl ?_
     refine go_nil ?_
     refine go_env [(0, _), (2, _), (8, _), (9, _), (10, _), (11, _), (12, _), (13, _)] ⟨rfl, rfl, rfl, rfl, rfl, rfl, rfl, rfl, trivial⟩ ?_
     refine go_blk ?_
     iterate 4 first | refine go_region rfl ?_ | refine go_pure0 Tk rfl rfl rfl ?_
     refine go_nil ?_
     refine go_i64 13 rfl (by omega) (by omega) ?_
     have hnx : fput (((l.take (i)).flatMap (fun c => headsC c (Sq l (fof a) k) [] (fof a) false) ++ (headsC l[i] (Sq l (fof a) k) [] (fof a) false).take (j)).foldl fput (Sq l (fof a) k)) (headsC l[i] (Sq l (fof a) k) [] (fof a) false)[j] = ((l.take (i)).flatMap (fun c => headsC c (Sq l (fof a) k) [] (fof a) false) ++ (headsC l[i] (Sq l (fof a) k) [] (fof a) false).take ((j + 1))).foldl fput (Sq l (fof a) k) := by rw [List.take_succ_eq_append_getElem (show j < (headsC l[i] (Sq l (fof a) k) [] (fof a) false).length by omega), ← List.append_assoc]; simp only [List.foldl_append, List.foldl_cons, List.foldl_nil]
     refine go_re 10 (.slice A6 (((l.take (i)).flatMap (fun c => headsC c (Sq l (fof a) k) [] (fof a) false) ++ (headsC l[i] (Sq l (fof a) k) [] (fof a) false).take ((j + 1))).foldl fput (Sq l (fof a) k)).length k6) (by show some (Value.slice _ _ _) = _; rw [hnx]) ?_
     refine go_sl (sl tFa A6 k6 (fput (((l.take (i)).flatMap (fun c => headsC c (Sq l (fof a) k) [] (fof a) false) ++ (headsC l[i] (Sq l (fof a) k) [] (fof a) false).take (j)).foldl fput (Sq l (fof a) k)) (headsC l[i] (Sq l (fof a) k) [] (fof a) false)[j])) (sl tFa A6 k6 (((l.take (i)).flatMap (fun c => headsC c (Sq l (fof a) k) [] (fof a) false) ++ (headsC l[i] (Sq l (fof a) k) [] (fof a) false).take ((j + 1))).foldl fput (Sq l (fof a) k))) (by repeat constructor) (fun _ h => hnx ▸ h) ?_
     refine go_back (j + 1, A6, k6) ⟨rfl, rfl, rfl, rfl, rfl, rfl, rfl, rfl, trivial⟩ (by repeat constructor) (by repeat constructor) (by show j + 1 ≤ _; omega) (by show _ - (j + 1) < _ - j; omega)
    ·intro g7
     have hxe : ((l.take (i)).flatMap (fun c => headsC c (Sq l (fof a) k) [] (fof a) false) ++ (headsC l[i] (Sq l (fof a) k) [] (fof a) false).take (j)).foldl fput (Sq l (fof a) k) = ((l.take (i + 1)).flatMap (fun c => headsC c (Sq l (fof a) k) [] (fof a) false)).foldl fput (Sq l (fof a) k) := by rw [List.take_of_length_le (show (headsC l[i] (Sq l (fof a) k) [] (fof a) false).length ≤ j by omega), ← flat_next (by omega)]
     refine go_exit rfl ?_
     refine go_blk ?_
     iterate 4 first | refine go_region rfl ?_ | refine go_pure0 Tk rfl rfl rfl ?_
     refine go_nil ?_
     refine go_i64 11 rfl (by omega) (by omega) ?_
     refine go_re 10 (.slice A8 (((l.take (i + 1)).flatMap (fun c => headsC c (Sq l (fof a) k) [] (fof a) false)).foldl fput (Sq l (fof a) k)).length k8) (by show some (Value.slice _ _ _) = _; rw [hxe]) ?_
     refine go_sl (sl tFa A8 k8 (((l.take (i)).flatMap (fun c => headsC c (Sq l (fof a) k) [] (fof a) false) ++ (headsC l[i] (Sq l (fof a) k) [] (fof a) false).take (j)).foldl fput (Sq l (fof a) k))) (sl tFa A8 k8 (((l.take (i + 1)).flatMap (fun c => headsC c (Sq l (fof a) k) [] (fof a) false)).foldl fput (Sq l (fof a) k))) (by repeat constructor) (fun _ h => hxe ▸ h) ?_
     refine go_back (i + 1, A8, k8) ⟨rfl, rfl, rfl, rfl, rfl, rfl, trivial⟩ (by repeat constructor) (by repeat constructor) (by show i + 1 ≤ _; omega) (by show l.length - (i + 1) < l.length - i; omega)
   ·intro hq1
    iterate 3 first | refine go_exit rfl ?_ | refine go_seq ?_
    have hxn : ((l.take (i)).flatMap (fun c => headsC c (Sq l (fof a) k) [] (fof a) false)).foldl fput (Sq l (fof a) k) = Sq l (fof a) (k + 1) := by rw [List.take_of_length_le (show l.length ≤ i by omega)]; exact fold_next_S hrS
    obtain ⟨A9, rfl⟩ : ∃ A9, A9 = A7 := ⟨_, rfl⟩
    obtain ⟨k9, rfl⟩ : ∃ k9, k9 = k7 := ⟨_, rfl⟩
    refine go_re 10 (.slice A9 (Sq l (fof a) (k + 1)).length k9) (by show some (Value.slice _ _ _) = _; rw [hxn]) ?_
    refine go_sl (sl tFa A9 k9 (((l.take (i)).flatMap (fun c => headsC c (Sq l (fof a) k) [] (fof a) false)).foldl fput (Sq l (fof a) k))) (sl tFa A9 k9 (Sq l (fof a) (k + 1))) (by repeat constructor) (fun _ h => hxn ▸ h) ?_
    iterate 5 first | refine go_region rfl ?_ | refine go_pure0 Tk rfl rfl rfl ?_
    refine go_nil ?_
    refine go_env [(0, _), (2, _), (8, _), (9, _), (10, _), (53, _)] ⟨rfl, rfl, rfl, rfl, rfl, rfl, trivial⟩ ?_
    refine go_condD rfl ?_ ?_
    ·intro g3
     refine go_seq ?_
     refine go_ent (sl tFa none 0 []) (fun h _ => Sl_nil tFa h) ?_
     iterate 3 first | refine go_region rfl ?_ | refine go_pure0 Tk rfl rfl rfl ?_
     refine go_nil ?_
     refine go_env [(6, _), (7, _)] ⟨rfl, rfl, trivial⟩ ?_
     refine go_ret ⟨rfl, rfl⟩ _ _ (res2 (by rfl) (.tmp rfl) (.tmp rfl)) ⟨[], 6, none, 0, .many (k + 1) g2' g1 (by omega), rfl, rfl, rfl⟩ (by repeat constructor) (by repeat constructor)
    ·intro g3
     iterate 9 first | refine go_skip ?_ | refine go_seq ?_ | refine go_region rfl ?_ | refine go_pure0 Tk rfl rfl rfl ?_
     refine go_nil ?_
     refine go_env [(0, _), (2, _), (8, _), (9, _), (10, _), (58, _)] ⟨rfl, rfl, rfl, rfl, rfl, rfl, trivial⟩ ?_
     refine go_condD rfl ?_ ?_
     ·intro g5
      have g4 : nx l (fof a) (Sq l (fof a) k) = [] := List.eq_nil_of_length_eq_zero (by omega)
      iterate 5 first | refine go_seq ?_ | refine go_region rfl ?_ | refine go_pure0 Tk rfl rfl rfl ?_
      refine go_nil ?_
      refine go_env [(6, _), (7, _)] ⟨rfl, rfl, trivial⟩ ?_
      refine go_ret ⟨rfl, rfl⟩ _ _ (res2 (by rfl) (.tmp rfl) (.tmp rfl)) ⟨Sq l (fof a) k, 0, AS, kS, .ok k g2' g1 (by omega) g4, rfl, rfl, rfl⟩ (by repeat constructor) (by repeat constructor)
     ·intro g5
      have g4 : ¬ nx l (fof a) (Sq l (fof a) k) = [] := fun q => g5 (by rw [hlenS, q]; simp)
      iterate 4 first | refine go_skip ?_ | refine go_region rfl ?_ | refine go_pure0 Tk rfl rfl rfl ?_
      refine go_nil ?_
      refine go_env [(0, _), (2, _), (8, _), (9, _)] ⟨rfl, rfl, rfl, rfl, trivial⟩ ?_
      refine go_blk ?_
      have hpos := List.length_pos_iff.2 g4
      refine go_back (k + 1, A9, k9) ⟨rfl, rfl, rfl, rfl, trivial⟩ (by repeat constructor) (by repeat constructor) ⟨by show (Sq l (fof a) (k + 1)).length ≤ 60; omega, fun j hj => (Nat.lt_or_ge j k).elim (hkn j) (fun q => by rw [show j = k by have : j < k + 1 := hj; omega]; exact g4)⟩ (by show 61 - (Sq l (fof a) (k + 1)).length < 61 - (Sq l (fof a) k).length; omega)

end Go.Proofs.YtkhddfknpegpmaaGreat.SL

/- Contracts of functions of the program (Law14p): what each call comes to, for the laws' proofs. -/
set_option linter.unusedVariables false
set_option linter.unusedSimpArgs false
namespace Go.Proofs.YtkhddfknpegpmaaGreat.SL
open Go 

set_option maxHeartbeats 2000000 in
set_option maxRecDepth 20000 in
theorem lawFixPlays (l : List Cl) (LA : Option Addr) (lc : Nat) (gl : ∀ c ∈ l, c.ok) (zl : l.length ≤ 140737488351232) (a : List Fa) (A : Option Addr) (k : Nat) (ga : ∀ x ∈ a, x.ok) (za : a.length ≤ 140737488351232) (most : Int) (hmo : -9223372036854775808 ≤ most ∧ most ≤ 9223372036854775807) :
    Spec Tryz.prog 4 #[.slice LA l.length lc, .slice A a.length k, .int .i64 most] [sl tCl LA lc l, sl tFa A k a] [] (fun v Ps' Os' => v = .bool true ∧ Ps' = [] ∧ Os' = []) := by
 refine spec_of (fn := Tryz.f4) (args := [.slice LA l.length lc, .slice A a.length k, .int .i64 most]) 76 Tryz.func4 rfl (by kernel_rfl) Tryz.ntmps4 (Nat.le_of_ble_eq_true rfl) (fun w0 hp0 hf0 => ?_)
 refine go_seq ?_
 refine go_region rfl ?_
 refine go_pure0 Tk rfl rfl rfl ?_
 refine go_nil ?_
 refine go_env [(0, _), (1, _), (2, _)] ⟨rfl, rfl, rfl, trivial⟩ ?_
 iterate 5 first | refine go_seq ?_ | refine go_region rfl ?_ | refine go_pure0 Tk rfl rfl rfl ?_
 refine go_call (law14Few l LA lc a A k) rfl rfl (by rfl) rfl (by repeat constructor) (by repeat constructor) (fun h => nomatch h) ?_
 rintro _ _ _ ⟨rfl, rfl, rfl⟩
 iterate 2 refine go_pure0 Tk rfl rfl rfl ?_
 refine go_known 16 rfl ?_ ?_
 ·intro g1
  (try simp only [decide_eq_true_eq, decide_eq_false_iff_not, Bool.not_eq_true', Bool.not_eq_false', Bool.not_eq_eq_eq_not, Bool.not_true, Bool.not_false, Int.not_lt, Int.not_le, beq_iff_eq, beq_eq_false_iff_ne, ne_eq] at g1)
  iterate 3 first | refine go_skip0 rfl rfl ?_ | refine go_pure0 Tk rfl rfl rfl ?_
  refine go_nil ?_
  refine go_env [(0, _), (1, _), (2, _), (19, _)] ⟨rfl, rfl, rfl, rfl, trivial⟩ ?_
  refine go_cond_t rfl ?_
  refine go_seq ?_
  refine go_region rfl ?_
  refine go_call (lawWorks14) rfl rfl (by rfl) rfl (by repeat constructor) (by repeat constructor) (fun h => nomatch h) ?_
  rintro _ _ _ ⟨rfl, rfl, rfl⟩
  refine go_pure0 Tk rfl rfl rfl ?_
  refine go_nil ?_
  refine go_env [(6, _)] ⟨rfl, trivial⟩ ?_
  refine go_ret ⟨rfl, rfl⟩ _ _ (res1 (by rfl) (.tmp rfl)) ⟨rfl, rfl, rfl⟩ (by repeat constructor) (by repeat constructor)
 ·intro g1
  (try simp only [decide_eq_true_eq, decide_eq_false_iff_not, Bool.not_eq_true', Bool.not_eq_false', Bool.not_eq_eq_eq_not, Bool.not_true, Bool.not_false, Int.not_lt, Int.not_le, beq_iff_eq, beq_eq_false_iff_ne, ne_eq] at g1)
  iterate 3 refine go_pure0 Tk rfl rfl rfl ?_
  refine go_nil ?_
  refine go_env [(0, _), (1, _), (2, _), (19, _)] ⟨rfl, rfl, rfl, rfl, trivial⟩ ?_
  refine go_cond rfl ?_ ?_
  ·intro g2
   (try simp only [decide_eq_true_eq, decide_eq_false_iff_not, Bool.not_eq_true', Bool.not_eq_false', Bool.not_eq_eq_eq_not, Bool.not_true, Bool.not_false, Int.not_lt, Int.not_le, beq_iff_eq, beq_eq_false_iff_ne, ne_eq] at g2)
   refine go_seq ?_
   refine go_region rfl ?_
   refine go_call (lawWorks14) rfl rfl (by rfl) rfl (by repeat constructor) (by repeat constructor) (fun h => nomatch h) ?_
   rintro _ _ _ ⟨rfl, rfl, rfl⟩
   refine go_pure0 Tk rfl rfl rfl ?_
   refine go_nil ?_
   refine go_env [(6, _)] ⟨rfl, trivial⟩ ?_
   refine go_ret ⟨rfl, rfl⟩ _ _ (res1 (by rfl) (.tmp rfl)) ⟨rfl, rfl, rfl⟩ (by repeat constructor) (by repeat constructor)
  ·intro g2
   (try simp only [decide_eq_true_eq, decide_eq_false_iff_not, Bool.not_eq_true', Bool.not_eq_false', Bool.not_eq_eq_eq_not, Bool.not_true, Bool.not_false, Int.not_lt, Int.not_le, beq_iff_eq, beq_eq_false_iff_ne, ne_eq] at g2)
   refine go_skip ?_
   refine go_seq ?_
   have fp := few14_of g1
   have hlen : l.length ≤ 20 ∧ a.length ≤ 30 := ⟨fp.1, fp.2.1⟩
   have hla : ∀ x ∈ a, x.a.length ≤ 30 := (few11_of fp.2.2.1).2.2
   have hbl : ∀ c ∈ l, c.b.length ≤ 1000 := fun c hc => Nat.le_trans ((few11_of fp.2.2.1).2.1 c hc).1 (by omega)
   have hall := all14 fp ga
   have hfl := fof_len a
   iterate 3 first | refine go_region rfl ?_ | refine go_pure0 Tk rfl rfl rfl ?_
   refine go_call (relOf A k a (by omega) (fun x hx => Nat.le_trans (hla x hx) (by omega))) rfl rfl (by rfl) rfl (by repeat constructor) (by repeat constructor) (fun h => nomatch h) ?_
   rintro _ _ _ ⟨r1, rfl, rfl, rfl⟩
   refine go_freeze_rel (b := r1) (by repeat constructor) ?_
   refine go_ent (relN (some ⟨r1, 0, none⟩) (fof a)) (fun hh hps => relN_some (hps (relP r1 (fof a)) (by repeat constructor))) ?_
   refine go_pure0 Tk rfl rfl rfl ?_
   refine go_call (fixLeast l LA lc (some ⟨r1, 0, none⟩) (fof a) most gl hall (rises_fof _) (by omega) (big14 fp (by omega) (fof a)) (by omega)) rfl rfl (by rfl) rfl (by repeat constructor) (by repeat constructor) (fun h => nomatch h) ?_
   rintro _ _ _ ⟨r, n, e, p, hL, rfl, rfl, rfl⟩
   iterate 7 refine go_pure0 Tk rfl rfl rfl ?_
   refine go_nil ?_
   refine go_env [(0, _), (1, _), (2, _), (7, _), (8, _), (9, _)] ⟨rfl, rfl, rfl, rfl, rfl, rfl, trivial⟩ ?_
   iterate 5 first | refine go_seq ?_ | refine go_region rfl ?_ | refine go_pure0 Tk rfl rfl rfl ?_
   refine go_call (ref14Least l LA lc a A k most gl hbl (by omega) (by omega) (by omega) (fun c hc F hF => Nat.le_trans (small60 (fp.2.2.2 c hc) (n := 60) hF (by omega)) (by decide))) rfl rfl (by rfl) rfl (by repeat constructor) (by repeat constructor) (fun h => nomatch h) ?_
   rintro _ _ _ ⟨b, f, B1, j1, hR, rfl, rfl, rfl⟩
   obtain ⟨rfl, hdet⟩ := least_det hL hR
   iterate 5 refine go_pure0 Tk rfl rfl rfl ?_
   refine go_nil ?_
   refine go_env [(1, _), (7, _), (8, _), (9, _), (10, _), (11, _)] ⟨rfl, rfl, rfl, rfl, rfl, rfl, trivial⟩ ?_
   iterate 2 refine go_seq ?_
   by_cases he0 : e = 0
   ·skip
    obtain ⟨_, rfl, hbl2, hnn⟩ := hdet.resolve_right (fun q => q.1 he0)
    have hsb : ∀ x ∈ b, x.a.length ≤ 100000 := by
      subst he0
      cases hR with
      | ok kk => exact fun x hx => (Sq_ok gl hall kk x hx).2
    have hsl : (b.length : Int) ≤ most := by
      subst he0
      cases hR with
      | ok kk _ _ h => exact h
    refine go_relRs (S := b) (by repeat constructor) (fun bb hb => ?_)
    subst hb
    refine go_freeze_rel (b := bb) (by repeat constructor) ?_
    refine go_ent (relN (some ⟨bb, 0, none⟩) (b)) (fun hh hps => relN_some (hps (relP bb (b)) (by repeat constructor))) ?_
    iterate 4 first | refine go_region rfl ?_ | refine go_pure0 Tk rfl rfl rfl ?_
    refine go_re 39 (.bool false) (by show some (Value.bool _) = _; simp) ?_
    iterate 6 refine go_pure0 Tk rfl rfl rfl ?_
    refine go_re 45 (.bool false) (by show some (Value.bool _) = _; simp [he0]) ?_
    refine go_pure0 Tk rfl rfl rfl ?_
    refine go_nil ?_
    refine go_env [(1, _), (7, _), (8, _), (10, _), (11, _), (46, _)] ⟨rfl, rfl, rfl, rfl, rfl, rfl, trivial⟩ ?_
    refine go_cond_f rfl ?_
    iterate 6 first | refine go_skip ?_ | refine go_seq ?_ | refine go_region rfl ?_ | refine go_pure0 Tk rfl rfl rfl ?_
    refine go_re 48 (.bool false) (by show some (Value.bool _) = _; simp [he0]) ?_
    refine go_nil ?_
    refine go_env [(1, _), (7, _), (8, _), (10, _), (48, _)] ⟨rfl, rfl, rfl, rfl, rfl, trivial⟩ ?_
    refine go_cond_f rfl ?_
    refine go_skip ?_
    refine go_seq ?_
    refine go_region rfl ?_
    refine go_pure0 Tk rfl rfl rfl ?_
    refine go_call (relListN (some ⟨bb, 0, none⟩) b (by omega) (fun x hx => hsb x hx)) rfl rfl (by rfl) rfl (by repeat constructor) (by repeat constructor) (fun h => nomatch h) ?_
    rintro _ _ _ ⟨D1, e1, rfl, rfl, rfl⟩
    refine go_freeze_dl (T := tFa) (A := D1) (xs := b) (by repeat constructor) ?_
    refine go_pure0 Tk rfl rfl rfl ?_
    refine go_call (ref13Same D1 e1 b B1 j1 b) rfl rfl (by rfl) rfl (by repeat constructor) (by repeat constructor) (fun h => nomatch h) ?_
    rintro _ _ _ ⟨rfl, rfl, rfl⟩
    refine go_re 57 (.bool true) (by show some (Value.bool _) = _; first | rfl | simp) ?_
    iterate 3 refine go_pure0 Tk rfl rfl rfl ?_
    refine go_re 60 (.bool true) (by show some (Value.bool _) = _; rw [decide_eq_true (by omega)]) ?_
    iterate 6 refine go_pure0 Tk rfl rfl rfl ?_
    refine go_call (ref13Sorted A k a (by omega)) rfl rfl (by rfl) rfl (by repeat constructor) (by repeat constructor) (fun h => nomatch h) ?_
    rintro _ _ _ ⟨D2, e2, rfl, rfl, rfl⟩
    iterate 2 refine go_pure0 Tk rfl rfl rfl ?_
    refine go_i64 69 rfl (by omega) (by omega) ?_
    refine go_pure0 Tk rfl rfl rfl ?_
    refine go_i64 70 rfl (by omega) (by omega) ?_
    refine go_pure0 Tk rfl rfl rfl ?_
    refine go_re 71 (.bool true) (by show some (Value.bool _) = _; rw [decide_eq_true (by omega)]) ?_
    iterate 2 refine go_pure0 Tk rfl rfl rfl ?_
    refine go_call (lawWorks14) rfl rfl (by rfl) rfl (by repeat constructor) (by repeat constructor) (fun h => nomatch h) ?_
    rintro _ _ _ ⟨rfl, rfl, rfl⟩
    iterate 2 refine go_pure0 Tk rfl rfl rfl ?_
    refine go_nil ?_
    refine go_env [(6, _)] ⟨rfl, trivial⟩ ?_
    refine go_ret ⟨rfl, rfl⟩ _ _ (res1 (by rfl) (.tmp rfl)) ⟨rfl, rfl, rfl⟩ (by repeat constructor) (by repeat constructor)
   ·skip
    obtain ⟨_, rfl, rfl⟩ := hdet.resolve_left (fun q => he0 q.1)
    refine go_relRn (by repeat constructor) (fun hp => ?_)
    subst hp
    iterate 4 first | refine go_region rfl ?_ | refine go_pure0 Tk rfl rfl rfl ?_
    refine go_re 39 (.bool false) (by show some (Value.bool _) = _; simp) ?_
    iterate 6 refine go_pure0 Tk rfl rfl rfl ?_
    refine go_re 45 (.bool false) (by show some (Value.bool _) = _; simp [he0]) ?_
    refine go_pure0 Tk rfl rfl rfl ?_
    refine go_nil ?_
    refine go_env [(1, _), (7, _), (8, _), (10, _), (11, _), (46, _)] ⟨rfl, rfl, rfl, rfl, rfl, rfl, trivial⟩ ?_
    refine go_cond_f rfl ?_
    iterate 6 first | refine go_skip ?_ | refine go_seq ?_ | refine go_region rfl ?_ | refine go_pure0 Tk rfl rfl rfl ?_
    refine go_re 48 (.bool true) (by show some (Value.bool _) = _; simp [he0]) ?_
    refine go_nil ?_
    refine go_env [(1, _), (7, _), (8, _), (10, _), (48, _)] ⟨rfl, rfl, rfl, rfl, rfl, trivial⟩ ?_
    refine go_cond_t rfl ?_
    iterate 4 first | refine go_seq ?_ | refine go_region rfl ?_ | refine go_pure0 Tk rfl rfl rfl ?_
    refine go_re 50 (.bool true) (by show some (Value.bool _) = _; first | rfl | simp) ?_
    refine go_pure0 Tk rfl rfl rfl ?_
    refine go_call (lawWorks14) rfl rfl (by rfl) rfl (by repeat constructor) (by repeat constructor) (fun h => nomatch h) ?_
    rintro _ _ _ ⟨rfl, rfl, rfl⟩
    iterate 2 refine go_pure0 Tk rfl rfl rfl ?_
    refine go_nil ?_
    refine go_env [(6, _)] ⟨rfl, trivial⟩ ?_
    refine go_ret ⟨rfl, rfl⟩ _ _ (res1 (by rfl) (.tmp rfl)) ⟨rfl, rfl, rfl⟩ (by repeat constructor) (by repeat constructor)

set_option maxHeartbeats 6000000 in
set_option maxRecDepth 20000 in
theorem lawFixLeast (l : List Cl) (LA : Option Addr) (lc : Nat) (gl : ∀ c ∈ l, c.ok) (zl : l.length ≤ 140737488351232) (a : List Fa) (A : Option Addr) (k : Nat) (ga : ∀ x ∈ a, x.ok) (za : a.length ≤ 140737488351232) :
    Spec Tryz.prog 5 #[.slice LA l.length lc, .slice A a.length k] [sl tCl LA lc l, sl tFa A k a] [] (fun v Ps' Os' => v = .bool true ∧ Ps' = [] ∧ Os' = []) := by
 refine spec_of (fn := Tryz.f5) (args := [.slice LA l.length lc, .slice A a.length k]) 128 Tryz.func5 rfl (by kernel_rfl) Tryz.ntmps5 (Nat.le_of_ble_eq_true rfl) (fun w0 hp0 hf0 => ?_)
 refine go_seq ?_
 refine go_region rfl ?_
 refine go_pure0 Tk rfl rfl rfl ?_
 refine go_nil ?_
 refine go_env [(0, _), (1, _)] ⟨rfl, rfl, trivial⟩ ?_
 iterate 5 first | refine go_seq ?_ | refine go_region rfl ?_ | refine go_pure0 Tk rfl rfl rfl ?_
 refine go_call (law14Few l LA lc a A k) rfl rfl (by rfl) rfl (by repeat constructor) (by repeat constructor) (fun h => nomatch h) ?_
 rintro _ _ _ ⟨rfl, rfl, rfl⟩
 refine go_pure0 Tk rfl rfl rfl ?_
 refine go_nil ?_
 refine go_env [(0, _), (1, _), (23, _)] ⟨rfl, rfl, rfl, trivial⟩ ?_
 refine go_cond rfl ?_ ?_
 ·intro g1
  (try simp only [decide_eq_true_eq, decide_eq_false_iff_not, Bool.not_eq_true', Bool.not_eq_false', Bool.not_eq_eq_eq_not, Bool.not_true, Bool.not_false, Int.not_lt, Int.not_le, beq_iff_eq, beq_eq_false_iff_ne, ne_eq] at g1)
  refine go_seq ?_
  refine go_region rfl ?_
  refine go_call (lawWorks14) rfl rfl (by rfl) rfl (by repeat constructor) (by repeat constructor) (fun h => nomatch h) ?_
  rintro _ _ _ ⟨rfl, rfl, rfl⟩
  refine go_pure0 Tk rfl rfl rfl ?_
  refine go_nil ?_
  refine go_env [(4, _)] ⟨rfl, trivial⟩ ?_
  refine go_ret ⟨rfl, rfl⟩ _ _ (res1 (by rfl) (.tmp rfl)) ⟨rfl, rfl, rfl⟩ (by repeat constructor) (by repeat constructor)
 ·intro g1
  (try simp only [decide_eq_true_eq, decide_eq_false_iff_not, Bool.not_eq_true', Bool.not_eq_false', Bool.not_eq_eq_eq_not, Bool.not_true, Bool.not_false, Int.not_lt, Int.not_le, beq_iff_eq, beq_eq_false_iff_ne, ne_eq] at g1)
  refine go_skip ?_
  refine go_seq ?_
  have fp := few14_of g1
  have hlen : l.length ≤ 20 ∧ a.length ≤ 30 := ⟨fp.1, fp.2.1⟩
  have hla : ∀ x ∈ a, x.a.length ≤ 30 := (few11_of fp.2.2.1).2.2
  have hbl : ∀ c ∈ l, c.b.length ≤ 1000 := fun c hc => Nat.le_trans ((few11_of fp.2.2.1).2.1 c hc).1 (by omega)
  have hall := all14 fp ga
  have hfl := fof_len a
  iterate 3 first | refine go_region rfl ?_ | refine go_pure0 Tk rfl rfl rfl ?_
  refine go_call (relOf A k a (by omega) (fun x hx => Nat.le_trans (hla x hx) (by omega))) rfl rfl (by rfl) rfl (by repeat constructor) (by repeat constructor) (fun h => nomatch h) ?_
  rintro _ _ _ ⟨r1, rfl, rfl, rfl⟩
  refine go_freeze_rel (b := r1) (by repeat constructor) ?_
  refine go_ent (relN (some ⟨r1, 0, none⟩) (fof a)) (fun hh hps => relN_some (hps (relP r1 (fof a)) (by repeat constructor))) ?_
  refine go_call (fixLeast l LA lc (some ⟨r1, 0, none⟩) (fof a) 60 gl hall (rises_fof _) (by omega) (big14 fp (by omega) (fof a)) (by omega)) rfl rfl (by rfl) rfl (by repeat constructor) (by repeat constructor) (fun h => nomatch h) ?_
  rintro _ _ _ ⟨r, n, e, p, hL, rfl, rfl, rfl⟩
  have hcs := least_cases hL
  iterate 7 refine go_pure0 Tk rfl rfl rfl ?_
  refine go_nil ?_
  refine go_env [(0, _), (1, _), (5, _), (7, _)] ⟨rfl, rfl, rfl, rfl, trivial⟩ ?_
  iterate 2 refine go_seq ?_
  by_cases he0 : e = 0
  ·skip
   obtain ⟨_, kk, rfl, rfl, _, hfx, hsl, hkn, hnil⟩ := hcs.resolve_right (fun q => q.1 he0)
   have hsb : ∀ x ∈ Sq l (fof a) kk, x.a.length ≤ 100000 := fun x hx => (Sq_ok gl hall kk x hx).2
   have hkg := Sq_grow kk hkn
   refine go_relRs (S := Sq l (fof a) kk) (by repeat constructor) (fun bb hb => ?_)
   subst hb
   refine go_freeze_rel (b := bb) (by repeat constructor) ?_
   refine go_ent (relN (some ⟨bb, 0, none⟩) (Sq l (fof a) kk)) (fun hh hps => relN_some (hps (relP bb (Sq l (fof a) kk)) (by repeat constructor))) ?_
   iterate 3 first | refine go_region rfl ?_ | refine go_pure0 Tk rfl rfl rfl ?_
   refine go_re 34 (.bool false) (by show some (Value.bool _) = _; simp [he0]) ?_
   refine go_nil ?_
   refine go_env [(0, _), (1, _), (5, _), (7, _), (34, _)] ⟨rfl, rfl, rfl, rfl, rfl, trivial⟩ ?_
   refine go_cond_f rfl ?_
   refine go_skip ?_
   refine go_seq ?_
   refine go_region rfl ?_
   refine go_pure0 Tk rfl rfl rfl ?_
   refine go_call (relListN (some ⟨bb, 0, none⟩) (Sq l (fof a) kk) (by omega) (fun x hx => hsb x hx)) rfl rfl (by rfl) rfl (by repeat constructor) (by repeat constructor) (fun h => nomatch h) ?_
   rintro _ _ _ ⟨D1, e1, rfl, rfl, rfl⟩
   refine go_freeze_dl (T := tFa) (A := D1) (xs := Sq l (fof a) kk) (by repeat constructor) ?_
   refine go_len (xs := Sq l (fof a) kk) (by repeat constructor) (fun ls ms => ?_)
   refine go_pure0 Tk rfl rfl rfl ?_
   refine go_nil ?_
   refine go_env [(0, _), (1, _), (5, _), (8, _)] ⟨rfl, rfl, rfl, rfl, trivial⟩ ?_
   refine go_seq ?_
   refine go_region rfl ?_
   refine go_pure0 Tk rfl rfl rfl ?_
   refine go_call (relOf A k a (by omega) (fun x hx => Nat.le_trans (hla x hx) (by omega))) rfl rfl (by rfl) rfl (by repeat constructor) (by repeat constructor) (fun h => nomatch h) ?_
   rintro _ _ _ ⟨r2, rfl, rfl, rfl⟩
   refine go_freeze_rel (b := r2) (by repeat constructor) ?_
   refine go_ent (relN (some ⟨r2, 0, none⟩) (fof a)) (fun hh hps => relN_some (hps (relP r2 (fof a)) (by repeat constructor))) ?_
   refine go_pure0 Tk rfl rfl rfl ?_
   refine go_nil ?_
   refine go_env [(0, _), (1, _), (5, _), (8, _), (9, _)] ⟨rfl, rfl, rfl, rfl, rfl, trivial⟩ ?_
   refine go_seq ?_
   refine go_region rfl ?_
   refine go_pure0 Tk rfl rfl rfl ?_
   refine go_call (ref13Sorted A k a (by omega)) rfl rfl (by rfl) rfl (by repeat constructor) (by repeat constructor) (fun h => nomatch h) ?_
   rintro _ _ _ ⟨DS, eS, rfl, rfl, rfl⟩
   refine go_len (xs := fof a) (by repeat constructor) (fun ln mn => ?_)
   refine go_pure0 Tk rfl rfl rfl ?_
   refine go_nil ?_
   refine go_env [(0, _), (5, _), (8, _), (9, _), (10, _)] ⟨rfl, rfl, rfl, rfl, rfl, trivial⟩ ?_
   iterate 4 first | refine go_seq ?_ | refine go_region rfl ?_ | refine go_pure0 Tk rfl rfl rfl ?_
   refine go_nil ?_
   refine go_env [(0, _), (5, _), (8, _), (9, _), (10, _), (11, _)] ⟨rfl, rfl, rfl, rfl, rfl, rfl, trivial⟩ ?_
   refine go_block ?_
   refine go_loop' (X := Nat) (fun j => [(11, .int .i64 (j : Int))]) [(0, _), (5, _), (8, _), (9, _), (10, _)] (fun _ => []) (fun j => j ≤ (fof a).length) (fun j => (fof a).length - j) (0) ⟨rfl, rfl, rfl, rfl, rfl, rfl, trivial⟩ (by repeat constructor) (by omega) ?_
   intro j hj
   iterate 7 first | refine go_seq ?_ | refine go_region rfl ?_ | refine go_pure0 Tk rfl rfl rfl ?_
   refine go_nil ?_
   refine go_env [(0, _), (5, _), (8, _), (9, _), (10, _), (11, _), (53, _)] ⟨rfl, rfl, rfl, rfl, rfl, rfl, rfl, trivial⟩ ?_
   refine go_condD rfl ?_ ?_
   ·intro hq1
    iterate 4 first | refine go_skip ?_ | refine go_seq ?_ | refine go_block ?_
    refine go_elem_fa (xs := fof a) (by repeat constructor) (j) (List.getElem?_eq_getElem (by omega)) (fun b1 o1 A1 c1 hA => ?_); cases hA
    iterate 4 first | refine go_region rfl ?_ | refine go_pure0 Tk rfl rfl rfl ?_
    refine go_val0 rfl (idx_val Tk rfl rfl rfl rfl rfl (by omega)) rfl ?_
    refine go_val0 rfl (ldv Tk rfl rfl rfl) rfl ?_
    refine go_call (ref13Has D1 e1 (Sq l (fof a) kk) (fof a)[j] A1 c1) rfl rfl (by rfl) rfl (by repeat constructor) (by repeat constructor) (fun h => nomatch h) ?_
    rintro _ _ _ ⟨rfl, rfl, rfl⟩
    refine go_pure0 Tk rfl rfl rfl ?_
    refine go_re 62 (.bool false) (by show some (Value.bool _) = _; rw [decide_eq_true (show (fof a)[j] ∈ Sq l (fof a) kk from Sq_mono l (fof a) (Nat.zero_le kk) _ (List.getElem_mem (l := fof a) (by omega)))]; rfl) ?_
    refine go_nil ?_
    refine go_env [(0, _), (5, _), (8, _), (9, _), (10, _), (11, _), (62, _)] ⟨rfl, rfl, rfl, rfl, rfl, rfl, rfl, trivial⟩ ?_
    refine go_cond_f rfl ?_
    refine go_skip ?_
    refine go_blk ?_
    iterate 4 first | refine go_region rfl ?_ | refine go_pure0 Tk rfl rfl rfl ?_
    refine go_nil ?_
    refine go_i64 11 rfl (by omega) (by omega) ?_
    refine go_back (j + 1) ⟨rfl, rfl, rfl, rfl, rfl, rfl, trivial⟩ (by repeat constructor) (by repeat constructor) (by omega) (by omega)
   ·intro hq1
    iterate 3 first | refine go_exit rfl ?_ | refine go_seq ?_
    refine go_len (xs := l) (by repeat constructor) (fun ll ml => ?_)
    refine go_region rfl ?_
    refine go_pure0 Tk rfl rfl rfl ?_
    refine go_nil ?_
    refine go_env [(0, _), (5, _), (8, _), (9, _), (10, _), (12, _)] ⟨rfl, rfl, rfl, rfl, rfl, rfl, trivial⟩ ?_
    refine go_block ?_
    refine go_loop' (X := Nat) (fun i => [(12, .int .i64 (i : Int))]) [(0, _), (5, _), (8, _), (9, _), (10, _)] (fun _ => []) (fun i => i ≤ l.length) (fun i => l.length - i) (0) ⟨rfl, rfl, rfl, rfl, rfl, rfl, trivial⟩ (by repeat constructor) (by omega) ?_
    intro i hi
    iterate 7 first | refine go_seq ?_ | refine go_region rfl ?_ | refine go_pure0 Tk rfl rfl rfl ?_
    refine go_nil ?_
    refine go_env [(0, _), (5, _), (8, _), (9, _), (10, _), (12, _), (66, _)] ⟨rfl, rfl, rfl, rfl, rfl, rfl, rfl, trivial⟩ ?_
    refine go_condD rfl ?_ ?_
    ·intro hq2
     iterate 4 first | refine go_skip ?_ | refine go_seq ?_ | refine go_block ?_
     refine go_elem_cl (xs := l) (by repeat constructor) (i) (List.getElem?_eq_getElem (by omega)) (fun b2 o2 A2 c2 B2 d2 hA => ?_); cases hA
     iterate 3 first | refine go_region rfl ?_ | refine go_pure0 Tk rfl rfl rfl ?_
     refine go_val0 rfl (idx_val Tk rfl rfl rfl rfl rfl (by omega)) rfl ?_
     iterate 3 first | refine go_val0 rfl (ldv Tk rfl rfl rfl) rfl ?_ | refine go_pure0 Tk rfl rfl rfl ?_
     refine go_call (joinHeadsAll l[i] A2 c2 B2 d2 (some ⟨bb, 0, none⟩) (some ⟨r2, 0, none⟩) (Sq l (fof a) kk) (fof a) ⟨by omega, fun x hx => (Sq_ok gl hall kk x hx).2, fun x hx => (Sq_ok gl hall kk x hx).1, rises_nil, by simp, rises_fof _, by omega⟩ (gl _ (List.getElem_mem _)) (big14 fp (most := 60) (by omega) (fof a) _ (List.getElem_mem _) _ _ _ hsl)) rfl rfl (by rfl) rfl (by repeat constructor) (by repeat constructor) (fun h => nomatch h) ?_
     rintro _ _ _ ⟨A3, k3, rfl, rfl, rfl⟩
     refine go_freeze_dl (T := tFa) (A := A3) (xs := headsC l[i] (Sq l (fof a) kk) [] (fof a) false) (by repeat constructor) ?_
     refine go_len (xs := headsC l[i] (Sq l (fof a) kk) [] (fof a) false) (by repeat constructor) (fun lh mh => ?_)
     refine go_pure0 Tk rfl rfl rfl ?_
     refine go_nil ?_
     refine go_env [(0, _), (5, _), (8, _), (9, _), (10, _), (12, _), (13, _)] ⟨rfl, rfl, rfl, rfl, rfl, rfl, rfl, trivial⟩ ?_
     refine go_seq ?_
     refine go_region rfl ?_
     refine go_pure0 Tk rfl rfl rfl ?_
     refine go_nil ?_
     refine go_env [(0, _), (5, _), (8, _), (9, _), (10, _), (12, _), (13, _), (14, _)] ⟨rfl, rfl, rfl, rfl, rfl, rfl, rfl, rfl, trivial⟩ ?_
     refine go_block ?_
     refine go_loop' (X := Nat) (fun m => [(14, .int .i64 (m : Int))]) [(0, _), (5, _), (8, _), (9, _), (10, _), (12, _), (13, _)] (fun _ => []) (fun m => m ≤ (headsC l[i] (Sq l (fof a) kk) [] (fof a) false).length) (fun m => (headsC l[i] (Sq l (fof a) kk) [] (fof a) false).length - m) (0) ⟨rfl, rfl, rfl, rfl, rfl, rfl, rfl, rfl, trivial⟩ (by repeat constructor) (by omega) ?_
     intro m hm
     iterate 7 first | refine go_seq ?_ | refine go_region rfl ?_ | refine go_pure0 Tk rfl rfl rfl ?_
     refine go_nil ?_
     refine go_env [(0, _), (5, _), (8, _), (9, _), (10, _), (12, _), (13, _), (14, _), (79, _)] ⟨rfl, rfl, rfl, rfl, rfl, rfl, rfl, rfl, rfl, trivial⟩ ?_
     refine go_condD rfl ?_ ?_
     ·intro hq3
      iterate 4 first | refine go_skip ?_ | refine go_seq ?_ | refine go_block ?_
      refine go_elem_fa (xs := headsC l[i] (Sq l (fof a) kk) [] (fof a) false) (by repeat constructor) (m) (List.getElem?_eq_getElem (by omega)) (fun b3 o3 A4 c4 hA => ?_); cases hA
      iterate 4 first | refine go_region rfl ?_ | refine go_pure0 Tk rfl rfl rfl ?_
      refine go_val0 rfl (idx_val Tk rfl rfl rfl rfl rfl (by omega)) rfl ?_
      refine go_val0 rfl (ldv Tk rfl rfl rfl) rfl ?_
      refine go_call (ref13Has D1 e1 (Sq l (fof a) kk) (headsC l[i] (Sq l (fof a) kk) [] (fof a) false)[m] A4 c4) rfl rfl (by rfl) rfl (by repeat constructor) (by repeat constructor) (fun h => nomatch h) ?_
      rintro _ _ _ ⟨rfl, rfl, rfl⟩
      refine go_pure0 Tk rfl rfl rfl ?_
      refine go_re 88 (.bool false) (by show some (Value.bool _) = _; rw [decide_eq_true (nx_nil.1 hnil _ (mem_allH.2 ⟨l[i], List.getElem_mem _, List.getElem_mem (by omega)⟩))]; rfl) ?_
      refine go_nil ?_
      refine go_env [(0, _), (5, _), (8, _), (9, _), (10, _), (12, _), (13, _), (14, _), (88, _)] ⟨rfl, rfl, rfl, rfl, rfl, rfl, rfl, rfl, rfl, trivial⟩ ?_
      refine go_cond_f rfl ?_
      refine go_skip ?_
      refine go_blk ?_
      iterate 4 first | refine go_region rfl ?_ | refine go_pure0 Tk rfl rfl rfl ?_
      refine go_nil ?_
      refine go_i64 14 rfl (by omega) (by omega) ?_
      refine go_back (m + 1) ⟨rfl, rfl, rfl, rfl, rfl, rfl, rfl, rfl, trivial⟩ (by repeat constructor) (by repeat constructor) (by omega) (by omega)
     ·intro hq3
      refine go_exit rfl ?_
      refine go_blk ?_
      iterate 4 first | refine go_region rfl ?_ | refine go_pure0 Tk rfl rfl rfl ?_
      refine go_nil ?_
      refine go_i64 12 rfl (by omega) (by omega) ?_
      refine go_back (i + 1) ⟨rfl, rfl, rfl, rfl, rfl, rfl, trivial⟩ (by repeat constructor) (by repeat constructor) (by omega) (by omega)
    ·intro hq2
     iterate 3 first | refine go_exit rfl ?_ | refine go_seq ?_
     refine go_sl (sl tFa DS eS (fof a)) (sl tFa DS eS (Sq l (fof a) 0)) (by repeat constructor) (fun _ h => h) ?_
     refine go_region rfl ?_
     refine go_pure0 Tk rfl rfl rfl ?_
     refine go_nil ?_
     refine go_env [(0, _), (8, _), (9, _), (10, _), (15, _)] ⟨rfl, rfl, rfl, rfl, rfl, trivial⟩ ?_
     refine go_block ?_
     refine go_loop (X := Nat × Option Addr × Nat) (fun x => [(10, .slice x.2.1 (Sq l (fof a) x.1).length x.2.2), (15, .int .i64 (x.1 : Int))]) [(0, _), (8, _), (9, _)] (fun x => [sl tFa x.2.1 x.2.2 (Sq l (fof a) x.1), sl tFa D1 e1 (Sq l (fof a) kk), sl tCl LA lc l, sl tFa A k a, relN (some ⟨bb, 0, none⟩) (Sq l (fof a) kk), relN (some ⟨r2, 0, none⟩) (fof a)]) (fun _ => []) (fun x => x.1 ≤ (Sq l (fof a) kk).length + 1) (fun x => (Sq l (fof a) kk).length + 1 - x.1) ((0, DS, eS)) ⟨rfl, rfl, rfl, rfl, rfl, trivial⟩ (by repeat constructor) (by repeat constructor) (by omega) ?_
     intro ⟨r, A5, k5⟩ hr
     simp only at hr ⊢
     have hrS := rises_Sq (l := l) (rises_fof a) r
     have hrt := Sq_top hnil r
     iterate 7 first | refine go_seq ?_ | refine go_region rfl ?_ | refine go_pure0 Tk rfl rfl rfl ?_
     refine go_nil ?_
     refine go_env [(0, _), (8, _), (9, _), (10, _), (15, _), (92, _)] ⟨rfl, rfl, rfl, rfl, rfl, rfl, trivial⟩ ?_
     refine go_condD rfl ?_ ?_
     ·intro hq4
      iterate 4 first | refine go_skip ?_ | refine go_seq ?_ | refine go_block ?_
      refine go_len (xs := Sq l (fof a) r) (by repeat constructor) (fun lr mr => ?_)
      refine go_region rfl ?_
      refine go_pure0 Tk rfl rfl rfl ?_
      refine go_call (relOf A5 k5 (Sq l (fof a) r) (by omega) (fun x hx => (Sq_ok gl hall r x hx).2)) rfl rfl (by rfl) rfl (by repeat constructor) (by repeat constructor) (fun h => nomatch h) ?_
      rintro _ _ _ ⟨r3, rfl, rfl, rfl⟩
      rw [fof_self hrS]
      refine go_freeze_rel (b := r3) (by repeat constructor) ?_
      refine go_ent (relN (some ⟨r3, 0, none⟩) (Sq l (fof a) r)) (fun hh hps => relN_some (hps (relP r3 (Sq l (fof a) r)) (by repeat constructor))) ?_
      refine go_pure0 Tk rfl rfl rfl ?_
      refine go_nil ?_
      refine go_env [(0, _), (8, _), (9, _), (10, _), (15, _), (16, _)] ⟨rfl, rfl, rfl, rfl, rfl, rfl, trivial⟩ ?_
      refine go_seq ?_
      have hhl : ∀ c ∈ l, (headsC c (Sq l (fof a) r) [] (fof a) false).length ≤ 216000 := fun c hc => headsC_len (Nat.le_trans (small60 (fp.2.2.2 c hc) (n := 60) (by omega) (by omega)) (by decide))
      have hxl : ∀ i, (((l.take (i)).flatMap (fun c => headsC c (Sq l (fof a) r) [] (fof a) false))).length ≤ i * 216000 := fun i => by
        exact Nat.le_trans (flatMap_le (n := 216000) (fun c hc => hhl c (List.mem_of_mem_take hc))) (Nat.mul_le_mul_right _ (by rw [List.length_take]; omega))
      refine go_region rfl ?_
      refine go_pure0 Tk rfl rfl rfl ?_
      refine go_nil ?_
      refine go_re 10 (.slice A5 (((l.take (0)).flatMap (fun c => headsC c (Sq l (fof a) r) [] (fof a) false)).foldl fput (Sq l (fof a) r)).length k5) (by rfl) ?_
      refine go_sl (sl tFa A5 k5 (Sq l (fof a) r)) (sl tFa A5 k5 (((l.take (0)).flatMap (fun c => headsC c (Sq l (fof a) r) [] (fof a) false)).foldl fput (Sq l (fof a) r))) (by repeat constructor) (fun _ h => h) ?_
      refine go_env [(0, _), (8, _), (9, _), (10, _), (15, _), (16, _), (17, _)] ⟨rfl, rfl, rfl, rfl, rfl, rfl, rfl, trivial⟩ ?_
      refine go_block ?_
      refine go_loop (X := Nat × Option Addr × Nat) (fun x => [(10, .slice x.2.1 (((l.take (x.1)).flatMap (fun c => headsC c (Sq l (fof a) r) [] (fof a) false)).foldl fput (Sq l (fof a) r)).length x.2.2), (17, .int .i64 (x.1 : Int))]) [(0, _), (8, _), (9, _), (15, _), (16, _)] (fun x => [sl tFa x.2.1 x.2.2 (((l.take (x.1)).flatMap (fun c => headsC c (Sq l (fof a) r) [] (fof a) false)).foldl fput (Sq l (fof a) r)), sl tFa D1 e1 (Sq l (fof a) kk), sl tCl LA lc l, sl tFa A k a, relN (some ⟨bb, 0, none⟩) (Sq l (fof a) kk), relN (some ⟨r2, 0, none⟩) (fof a), relN (some ⟨r3, 0, none⟩) (Sq l (fof a) r)]) (fun _ => []) (fun x => x.1 ≤ l.length) (fun x => l.length - x.1) ((0, A5, k5)) ⟨rfl, rfl, rfl, rfl, rfl, rfl, rfl, trivial⟩ (by repeat constructor) (by repeat constructor) (by omega) ?_
      intro ⟨i, A7, k7⟩ hi
      simp only at hi ⊢
      iterate 7 first | refine go_seq ?_ | refine go_region rfl ?_ | refine go_pure0 Tk rfl rfl rfl ?_
      refine go_nil ?_
      refine go_env [(0, _), (8, _), (9, _), (10, _), (15, _), (16, _), (17, _), (100, _)] ⟨rfl, rfl, rfl, rfl, rfl, rfl, rfl, rfl, trivial⟩ ?_
      refine go_condD rfl ?_ ?_
      ·intro hq5
       iterate 4 first | refine go_skip ?_ | refine go_seq ?_ | refine go_block ?_
       refine go_elem_cl (xs := l) (by repeat constructor) (i) (List.getElem?_eq_getElem (by omega)) (fun b6 o6 A6 c6 B6 d6 hA => ?_); cases hA
       iterate 3 first | refine go_region rfl ?_ | refine go_pure0 Tk rfl rfl rfl ?_
       refine go_val0 rfl (idx_val Tk rfl rfl rfl rfl rfl (by omega)) rfl ?_
       iterate 3 first | refine go_val0 rfl (ldv Tk rfl rfl rfl) rfl ?_ | refine go_pure0 Tk rfl rfl rfl ?_
       refine go_call (joinHeadsAll l[i] A6 c6 B6 d6 (some ⟨r3, 0, none⟩) (some ⟨r2, 0, none⟩) (Sq l (fof a) r) (fof a) ⟨by omega, fun x hx => (Sq_ok gl hall r x hx).2, fun x hx => (Sq_ok gl hall r x hx).1, rises_nil, by simp, rises_fof _, by omega⟩ (gl _ (List.getElem_mem _)) (Nat.le_trans (small60 (fp.2.2.2 _ (List.getElem_mem _)) (n := 60) (by omega) (by omega)) (by decide))) rfl rfl (by rfl) rfl (by repeat constructor) (by repeat constructor) (fun h => nomatch h) ?_
       rintro _ _ _ ⟨AH, kH, rfl, rfl, rfl⟩
       refine go_freeze_dl (T := tFa) (A := AH) (xs := headsC l[i] (Sq l (fof a) r) [] (fof a) false) (by repeat constructor) ?_
       refine go_pure0 Tk rfl rfl rfl ?_
       refine go_nil ?_
       refine go_env [(0, _), (8, _), (9, _), (10, _), (15, _), (16, _), (17, _), (18, _)] ⟨rfl, rfl, rfl, rfl, rfl, rfl, rfl, rfl, trivial⟩ ?_
       refine go_seq ?_
       refine go_len (xs := headsC l[i] (Sq l (fof a) r) [] (fof a) false) (by repeat constructor) (fun lh mh => ?_)
       have hhi := hhl l[i] (List.getElem_mem _)
       have hxi := hxl i
       refine go_region rfl ?_
       refine go_pure0 Tk rfl rfl rfl ?_
       refine go_nil ?_
       refine go_re 10 (.slice A7 (((l.take (i)).flatMap (fun c => headsC c (Sq l (fof a) r) [] (fof a) false) ++ (headsC l[i] (Sq l (fof a) r) [] (fof a) false).take (0)).foldl fput (Sq l (fof a) r)).length k7) (by show some (Value.slice _ _ _) = _; rw [List.take_zero, List.append_nil]) ?_
       refine go_sl (sl tFa A7 k7 (((l.take (i)).flatMap (fun c => headsC c (Sq l (fof a) r) [] (fof a) false)).foldl fput (Sq l (fof a) r))) (sl tFa A7 k7 (((l.take (i)).flatMap (fun c => headsC c (Sq l (fof a) r) [] (fof a) false) ++ (headsC l[i] (Sq l (fof a) r) [] (fof a) false).take (0)).foldl fput (Sq l (fof a) r))) (by repeat constructor) (fun _ h => by rw [List.take_zero, List.append_nil]; exact h) ?_
       refine go_env [(0, _), (8, _), (9, _), (10, _), (15, _), (16, _), (17, _), (18, _), (19, _)] ⟨rfl, rfl, rfl, rfl, rfl, rfl, rfl, rfl, rfl, trivial⟩ ?_
       refine go_block ?_
       refine go_loop (X := Nat × Option Addr × Nat) (fun x => [(10, .slice x.2.1 (((l.take (i)).flatMap (fun c => headsC c (Sq l (fof a) r) [] (fof a) false) ++ (headsC l[i] (Sq l (fof a) r) [] (fof a) false).take (x.1)).foldl fput (Sq l (fof a) r)).length x.2.2), (19, .int .i64 (x.1 : Int))]) [(0, _), (8, _), (9, _), (15, _), (16, _), (17, _), (18, _)] (fun x => [sl tFa x.2.1 x.2.2 (((l.take (i)).flatMap (fun c => headsC c (Sq l (fof a) r) [] (fof a) false) ++ (headsC l[i] (Sq l (fof a) r) [] (fof a) false).take (x.1)).foldl fput (Sq l (fof a) r)), sl tFa AH kH (headsC l[i] (Sq l (fof a) r) [] (fof a) false), sl tFa D1 e1 (Sq l (fof a) kk), sl tCl (some ⟨b6, o6, none⟩) lc l, sl tFa A k a, relN (some ⟨bb, 0, none⟩) (Sq l (fof a) kk), relN (some ⟨r2, 0, none⟩) (fof a), relN (some ⟨r3, 0, none⟩) (Sq l (fof a) r)]) (fun _ => []) (fun x => x.1 ≤ (headsC l[i] (Sq l (fof a) r) [] (fof a) false).length) (fun x => (headsC l[i] (Sq l (fof a) r) [] (fof a) false).length - x.1) ((0, A7, k7)) ⟨rfl, rfl, rfl, rfl, rfl, rfl, rfl, rfl, rfl, trivial⟩ (by repeat constructor) (by repeat constructor) (by omega) ?_
       intro ⟨j, A8, k8⟩ hj
       simp only at hj ⊢
       have hul := foldl_flen ((l.take (i)).flatMap (fun c => headsC c (Sq l (fof a) r) [] (fof a) false) ++ (headsC l[i] (Sq l (fof a) r) [] (fof a) false).take (j)) (Sq l (fof a) r)
       rw [List.length_append, List.length_take] at hul
       iterate 7 first | refine go_seq ?_ | refine go_region rfl ?_ | refine go_pure0 Tk rfl rfl rfl ?_
       refine go_nil ?_
       refine go_env [(0, _), (8, _), (9, _), (10, _), (15, _), (16, _), (17, _), (18, _), (19, _), (113, _)] ⟨rfl, rfl, rfl, rfl, rfl, rfl, rfl, rfl, rfl, rfl, trivial⟩ ?_
       refine go_condD rfl ?_ ?_
       ·intro g7
        refine go_skip ?_
        refine go_seq ?_
        refine go_block ?_
        refine go_elem_fa (xs := headsC l[i] (Sq l (fof a) r) [] (fof a) false) (by repeat constructor) (j) (List.getElem?_eq_getElem (by omega)) (fun b7 o7 A10 c10 hA => ?_); cases hA
        iterate 4 first | refine go_region rfl ?_ | refine go_pure0 Tk rfl rfl rfl ?_
        refine go_val0 rfl (idx_val Tk rfl rfl rfl rfl rfl (by omega)) rfl ?_
        refine go_val0 rfl (ldv Tk rfl rfl rfl) rfl ?_
        refine go_call (ref13With A8 k8 (((l.take (i)).flatMap (fun c => headsC c (Sq l (fof a) r) [] (fof a) false) ++ (headsC l[i] (Sq l (fof a) r) [] (fof a) false).take (j)).foldl fput (Sq l (fof a) r)) (headsC l[i] (Sq l (fof a) r) [] (fof a) false)[j] A10 c10 (foldl_rises _ _ hrS) (by have : i * 216000 ≤ 20 * 216000 := Nat.mul_le_mul_right _ (by omega); omega)) rfl rfl (by rfl) rfl (by repeat constructor) (by repeat constructor) (fun h => nomatch h) ?_
        rintro _ _ _ ⟨A9, k9, rfl, rfl, rfl⟩
        refine go_pure0 Tk rfl rfl rfl ?_
        refine go_nil ?_
        refine go_env [(0, _), (8, _), (9, _), (10, _), (15, _), (16, _), (17, _), (18, _), (19, _)] ⟨rfl, rfl, rfl, rfl, rfl, rfl, rfl, rfl, rfl, trivial⟩ ?_
        refine go_blk ?_
        iterate 4 first | refine go_region rfl ?_ | refine go_pure0 Tk rfl rfl rfl ?_
        refine go_nil ?_
        refine go_i64 19 rfl (by omega) (by omega) ?_
        have hnx : fput (((l.take (i)).flatMap (fun c => headsC c (Sq l (fof a) r) [] (fof a) false) ++ (headsC l[i] (Sq l (fof a) r) [] (fof a) false).take (j)).foldl fput (Sq l (fof a) r)) (headsC l[i] (Sq l (fof a) r) [] (fof a) false)[j] = ((l.take (i)).flatMap (fun c => headsC c (Sq l (fof a) r) [] (fof a) false) ++ (headsC l[i] (Sq l (fof a) r) [] (fof a) false).take ((j + 1))).foldl fput (Sq l (fof a) r) := by rw [List.take_succ_eq_append_getElem (show j < (headsC l[i] (Sq l (fof a) r) [] (fof a) false).length by omega), ← List.append_assoc]; simp only [List.foldl_append, List.foldl_cons, List.foldl_nil]
        refine go_re 10 (.slice A9 (((l.take (i)).flatMap (fun c => headsC c (Sq l (fof a) r) [] (fof a) false) ++ (headsC l[i] (Sq l (fof a) r) [] (fof a) false).take ((j + 1))).foldl fput (Sq l (fof a) r)).length k9) (by show some (Value.slice _ _ _) = _; rw [hnx]) ?_
        refine go_sl (sl tFa A9 k9 (fput (((l.take (i)).flatMap (fun c => headsC c (Sq l (fof a) r) [] (fof a) false) ++ (headsC l[i] (Sq l (fof a) r) [] (fof a) false).take (j)).foldl fput (Sq l (fof a) r)) (headsC l[i] (Sq l (fof a) r) [] (fof a) false)[j])) (sl tFa A9 k9 (((l.take (i)).flatMap (fun c => headsC c (Sq l (fof a) r) [] (fof a) false) ++ (headsC l[i] (Sq l (fof a) r) [] (fof a) false).take ((j + 1))).foldl fput (Sq l (fof a) r))) (by repeat constructor) (fun _ h => hnx ▸ h) ?_
        refine go_back (j + 1, A9, k9) ⟨rfl, rfl, rfl, rfl, rfl, rfl, rfl, rfl, rfl, trivial⟩ (by repeat constructor) (by repeat constructor) (by show j + 1 ≤ _; omega) (by show _ - (j + 1) < _ - j; omega)
       ·intro g7
        have hxe : ((l.take (i)).flatMap (fun c => headsC c (Sq l (fof a) r) [] (fof a) false) ++ (headsC l[i] (Sq l (fof a) r) [] (fof a) false).take (j)).foldl fput (Sq l (fof a) r) = ((l.take (i + 1)).flatMap (fun c => headsC c (Sq l (fof a) r) [] (fof a) false)).foldl fput (Sq l (fof a) r) := by rw [List.take_of_length_le (show (headsC l[i] (Sq l (fof a) r) [] (fof a) false).length ≤ j by omega), ← flat_next (by omega)]
        refine go_exit rfl ?_
        refine go_blk ?_
        iterate 4 first | refine go_region rfl ?_ | refine go_pure0 Tk rfl rfl rfl ?_
        refine go_nil ?_
        refine go_i64 17 rfl (by omega) (by omega) ?_
        refine go_re 10 (.slice A8 (((l.take (i + 1)).flatMap (fun c => headsC c (Sq l (fof a) r) [] (fof a) false)).foldl fput (Sq l (fof a) r)).length k8) (by show some (Value.slice _ _ _) = _; rw [hxe]) ?_
        refine go_sl (sl tFa A8 k8 (((l.take (i)).flatMap (fun c => headsC c (Sq l (fof a) r) [] (fof a) false) ++ (headsC l[i] (Sq l (fof a) r) [] (fof a) false).take (j)).foldl fput (Sq l (fof a) r))) (sl tFa A8 k8 (((l.take (i + 1)).flatMap (fun c => headsC c (Sq l (fof a) r) [] (fof a) false)).foldl fput (Sq l (fof a) r))) (by repeat constructor) (fun _ h => hxe ▸ h) ?_
        refine go_back (i + 1, A8, k8) ⟨rfl, rfl, rfl, rfl, rfl, rfl, rfl, trivial⟩ (by repeat constructor) (by repeat constructor) (by show i + 1 ≤ _; omega) (by show l.length - (i + 1) < l.length - i; omega)
      ·intro hq5
       refine go_exit rfl ?_
       refine go_blk ?_
       iterate 4 first | refine go_region rfl ?_ | refine go_pure0 Tk rfl rfl rfl ?_
       refine go_nil ?_
       refine go_i64 15 rfl (by omega) (by omega) ?_
       have hxn : ((l.take (i)).flatMap (fun c => headsC c (Sq l (fof a) r) [] (fof a) false)).foldl fput (Sq l (fof a) r) = Sq l (fof a) (r + 1) := by rw [List.take_of_length_le (show l.length ≤ i by omega)]; exact fold_next_S hrS
       refine go_re 10 (.slice A7 (Sq l (fof a) (r + 1)).length k7) (by show some (Value.slice _ _ _) = _; rw [hxn]) ?_
       refine go_sl (sl tFa A7 k7 (((l.take (i)).flatMap (fun c => headsC c (Sq l (fof a) r) [] (fof a) false)).foldl fput (Sq l (fof a) r))) (sl tFa A7 k7 (Sq l (fof a) (r + 1))) (by repeat constructor) (fun _ h => hxn ▸ h) ?_
       refine go_back (r + 1, A7, k7) ⟨rfl, rfl, rfl, rfl, rfl, trivial⟩ (by repeat constructor) (by repeat constructor) (by show r + 1 ≤ _; omega) (by show (Sq l (fof a) kk).length + 1 - (r + 1) < (Sq l (fof a) kk).length + 1 - r; omega)
     ·intro hq4
      refine go_exit rfl ?_
      refine go_seq ?_
      have hfin : Sq l (fof a) r = Sq l (fof a) kk := Sq_stop hnil r (by omega)
      iterate 3 first | refine go_region rfl ?_ | refine go_pure0 Tk rfl rfl rfl ?_
      refine go_call (ref13Same A5 k5 (Sq l (fof a) r) D1 e1 (Sq l (fof a) kk)) rfl rfl (by rfl) rfl (by repeat constructor) (by repeat constructor) (fun h => nomatch h) ?_
      rintro _ _ _ ⟨rfl, rfl, rfl⟩
      refine go_re 124 (.bool true) (by show some (Value.bool _) = _; rw [decide_eq_true hfin]) ?_
      refine go_pure0 Tk rfl rfl rfl ?_
      refine go_call (lawWorks14) rfl rfl (by rfl) rfl (by repeat constructor) (by repeat constructor) (fun h => nomatch h) ?_
      rintro _ _ _ ⟨rfl, rfl, rfl⟩
      iterate 2 refine go_pure0 Tk rfl rfl rfl ?_
      refine go_nil ?_
      refine go_env [(4, _)] ⟨rfl, trivial⟩ ?_
      refine go_ret ⟨rfl, rfl⟩ _ _ (res1 (by rfl) (.tmp rfl)) ⟨rfl, rfl, rfl⟩ (by repeat constructor) (by repeat constructor)
  ·skip
   obtain ⟨_, rfl, rfl, hee⟩ := hcs.resolve_left (fun q => he0 q.1)
   have hee2 : e = 1 ∨ e = 6 := hee.elim (fun q => .inl q.1) (fun q => .inr q.1)
   iterate 3 first | refine go_region rfl ?_ | refine go_pure0 Tk rfl rfl rfl ?_
   refine go_re 34 (.bool true) (by show some (Value.bool _) = _; simp [he0]) ?_
   refine go_nil ?_
   refine go_env [(0, _), (1, _), (5, _), (7, _), (34, _)] ⟨rfl, rfl, rfl, rfl, rfl, trivial⟩ ?_
   refine go_cond_t rfl ?_
   iterate 5 first | refine go_seq ?_ | refine go_region rfl ?_ | refine go_pure0 Tk rfl rfl rfl ?_
   refine go_known 37 rfl ?_ ?_
   ·intro g2
    (try simp only [decide_eq_true_eq, decide_eq_false_iff_not, Bool.not_eq_true', Bool.not_eq_false', Bool.not_eq_eq_eq_not, Bool.not_true, Bool.not_false, Int.not_lt, Int.not_le, beq_iff_eq, beq_eq_false_iff_ne, ne_eq] at g2)
    iterate 4 first | refine go_skip0 rfl rfl ?_ | refine go_pure0 Tk rfl rfl rfl ?_
    refine go_call (lawWorks14) rfl rfl (by rfl) rfl (by repeat constructor) (by repeat constructor) (fun h => nomatch h) ?_
    rintro _ _ _ ⟨rfl, rfl, rfl⟩
    iterate 2 refine go_pure0 Tk rfl rfl rfl ?_
    refine go_nil ?_
    refine go_env [(4, _)] ⟨rfl, trivial⟩ ?_
    refine go_ret ⟨rfl, rfl⟩ _ _ (res1 (by rfl) (.tmp rfl)) ⟨rfl, rfl, rfl⟩ (by repeat constructor) (by repeat constructor)
   ·intro g2
    (try simp only [decide_eq_true_eq, decide_eq_false_iff_not, Bool.not_eq_true', Bool.not_eq_false', Bool.not_eq_eq_eq_not, Bool.not_true, Bool.not_false, Int.not_lt, Int.not_le, beq_iff_eq, beq_eq_false_iff_ne, ne_eq] at g2)
    iterate 2 refine go_pure0 Tk rfl rfl rfl ?_
    refine go_re 39 (.bool true) (by show some (Value.bool _) = _; rw [decide_eq_true (by omega)]) ?_
    iterate 2 refine go_pure0 Tk rfl rfl rfl ?_
    refine go_call (lawWorks14) rfl rfl (by rfl) rfl (by repeat constructor) (by repeat constructor) (fun h => nomatch h) ?_
    rintro _ _ _ ⟨rfl, rfl, rfl⟩
    iterate 2 refine go_pure0 Tk rfl rfl rfl ?_
    refine go_nil ?_
    refine go_env [(4, _)] ⟨rfl, trivial⟩ ?_
    refine go_ret ⟨rfl, rfl⟩ _ _ (res1 (by rfl) (.tmp rfl)) ⟨rfl, rfl, rfl⟩ (by repeat constructor) (by repeat constructor)

end Go.Proofs.YtkhddfknpegpmaaGreat.SL

/- The rows: what the arguments that a row lets in are, in the engine's words; the law's contract as the row. -/
set_option linter.unusedVariables false
set_option linter.unusedSimpArgs false
namespace Go.Proofs.YtkhddfknpegpmaaGreat.SL
open Go.RowKit Go.Deep
def Opens (P : Program) (t : TypeId) {α : Type} (T : Ty α) (G : α → Prop) : Prop :=
  ∀ {H : Type} {enc : TypeId × Value → H} {W : World} {base : Nat} {sp : Nat → Bool} {hd : Bool} {fuel : Nat} {cs : List Value} {x : DataW H × List MemPlace}, DataW.trod enc P W base sp hd fuel t cs = some x → ∃ v, T.rep (hpOf W) v cs ∧ G v
theorem wf_u32 {n : Int} (h : (Lit.int .u32 n).wf = true) : 0 ≤ n ∧ n < 4294967296 := by
  simp [Lit.wf, IntKind.min, IntKind.max, IntKind.signed, IntKind.bits] at h; omega
theorem wf_i64 {n : Int} (h : (Lit.int .i64 n).wf = true) : -9223372036854775808 ≤ n ∧ n ≤ 9223372036854775807 := by
  simp [Lit.wf, IntKind.min, IntKind.max, IntKind.signed, IntKind.bits] at h; omega
section
variable {P : Program}
theorem opens_int {t : TypeId} {k : IntKind} (ht : P.underlying t = some (.int k)) : Opens P t (tInt k) (fun n => (Lit.int k n).wf = true) := fun h => by
  obtain ⟨n, rfl, _, hw⟩ := DataW.trod_int ht h
  exact ⟨n, rfl, hw⟩
theorem opens_bool {t : TypeId} (ht : P.underlying t = some .bool) : Opens P t tBool (fun _ => True) := fun h => by
  obtain ⟨n, rfl, _⟩ := DataW.trod_bool ht h
  exact ⟨n, rfl, trivial⟩
theorem opens_iso {t : TypeId} {α β : Type} {T : Ty β} {G : β → Prop} {G' : α → Prop} (f : α → β) (g : β → α) (o : Opens P t T G) (hg : ∀ b, f (g b) = b) (hG : ∀ b, G b → G' (g b)) : Opens P t (tIso T f) G' := fun h => by
  obtain ⟨v, r, q⟩ := o h
  exact ⟨g v, by show T.rep _ (f (g v)) _; rw [hg]; exact r, hG v q⟩
theorem opens_pair {t : TypeId} {f0 f1 : Field} {α β : Type} {T : Ty α} {U : Ty β} {G : α → Prop} {K : β → Prop} (ht : P.underlying t = some (.struct #[f0, f1])) (o0 : Opens P f0.type T G) (o1 : Opens P f1.type U K)
    (h0 : f0.offset = 0) (h1 : f1.offset = T.size) (c0 : P.cellsOf f0.type = T.size) (c1 : P.cellsOf f1.type = U.size) (ct : P.cellsOf t = T.size + U.size) : Opens P t (tPair T U) (fun x => G x.1 ∧ K x.2) := fun h => by
  obtain ⟨xs, n, _, rfl, hl, hlen, hf⟩ := DataW.trod_struct ht h
  match xs, hlen with
  | [y0, y1], _ =>
    have e0 := hf 0 f0 rfl
    have e1 := hf 1 f1 rfl
    obtain ⟨v0, r0, g0⟩ := o0 (by simpa using e0)
    obtain ⟨v1, r1, g1⟩ := o1 (by simpa using e1)
    refine ⟨(v0, v1), ⟨_, _, ?_, r0, r1⟩, g0, g1⟩
    rw [h0, h1, c0, c1, List.drop_zero]
    rw [ct] at hl
    rw [List.take_of_length_le (l := List.drop _ _) (by simp; omega), List.take_append_drop]
theorem opens_slice {t e : TypeId} {α : Type} {T : Ty α} {G : α → Prop} (ht : P.underlying t = some (.slice e)) (o : Opens P e T G) (hc : P.cellsOf e = T.size) (hp : 0 < T.size) : Opens P t (tSl T) (fun xs => ∀ x ∈ xs, G x) := fun {H enc W base sp hd fuel cs x} h => by
  rcases open_slice ht h with ⟨rfl, _⟩ | ⟨a, len, cap, m, n, D, Pl, rfl, hb, hl, hm, hmm, rfl, hx⟩
  · exact ⟨[], ⟨none, 0, rfl, by simp, by simp [maxLen], fun _ => rfl, fun j x hj => by simp at hj⟩, fun x hx => by cases hx⟩
  · have hlm : len ≤ m := by rw [hmm]; split <;> omega
    have el : ∀ i, i < len → ∃ v, (∃ cs, T.rep (hpOf W) v cs ∧ W.cells? base (a.add (i * T.size)) T.size = some cs) ∧ G v := fun i hi => by
      obtain ⟨cs', h1, h2⟩ := hx i (by omega)
      obtain ⟨v, r, g⟩ := o h2
      rw [hc] at h1
      exact ⟨v, ⟨cs', r, h1⟩, g⟩
    have ex : ∃ xs : List α, xs.length = len ∧ ∀ i x, xs[i]? = some x → (∃ cs, T.rep (hpOf W) x cs ∧ W.cells? base (a.add (i * T.size)) T.size = some cs) ∧ G x := by
      have key : ∀ k, k ≤ len → ∃ xs : List α, xs.length = k ∧ ∀ i x, xs[i]? = some x → (∃ cs, T.rep (hpOf W) x cs ∧ W.cells? base (a.add (i * T.size)) T.size = some cs) ∧ G x := by
        intro k
        induction k with
        | zero => exact fun _ => ⟨[], rfl, fun i x hx => by simp at hx⟩
        | succ k ih =>
          intro hk
          obtain ⟨xs, h1, h2⟩ := ih (by omega)
          obtain ⟨v, hv⟩ := el k (by omega)
          refine ⟨xs ++ [v], by simp [h1], fun i x hx => ?_⟩
          rw [List.getElem?_append] at hx
          split at hx
          · exact h2 i x hx
          · rename_i hlt
            have : i = k := by
              rcases Nat.eq_or_lt_of_le (show xs.length ≤ i by omega) with q | q
              · omega
              · rw [List.getElem?_eq_none (by simp; omega)] at hx; cases hx
            subst this
            simp [h1] at hx
            subst hx
            exact hv
      exact key len (Nat.le_refl _)
    obtain ⟨xs, h1, h2⟩ := ex
    refine ⟨xs, ⟨some a, cap, by rw [h1], by omega, hm, fun e => (by cases e), fun j x hj => ?_⟩, fun x hx => ?_⟩
    · obtain ⟨⟨cs, r, hcs⟩, _⟩ := h2 j x hj
      obtain ⟨_, hln, hget⟩ := World.cells?_some hcs
      have hspot : a.spot = none := by
        obtain ⟨v0, hv0⟩ : ∃ v, xs[0]? = some v := by
          cases xs with
          | nil => simp at hj
          | cons v l => exact ⟨v, rfl⟩
        obtain ⟨⟨cs0, _, hcs0⟩, _⟩ := h2 0 v0 hv0
        obtain ⟨_, hln0, hget0⟩ := World.cells?_some hcs0
        have := hget0 0 hp
        rw [List.getElem?_eq_getElem (by omega)] at this
        simp only [Nat.zero_mul, Addr.add, if_true, World.cell?] at this
        split at this
        · cases hs : a.spot with
          | none => rfl
          | some q => rw [hs] at this; simp at this
        · cases this
      obtain ⟨b, oo, sp0⟩ := a
      cases hspot
      refine ⟨b, oo, cs, rfl, r, fun i v hi => ?_⟩
      have hlt : i < T.size := by
        rw [← hln]
        rcases Nat.lt_or_ge i cs.length with q | q
        · exact q
        · simp [q] at hi
      have := hget i hlt
      rw [run_addOff, run_addOff, hi] at this
      unfold World.cell? at this
      unfold cellH hpOf
      rw [Nat.add_assoc] at this
      simp only at this ⊢
      split at this
      · rename_i e
        simp only [e]
        simpa using this
      · cases this
    · obtain ⟨j, hj, rfl⟩ := List.getElem_of_mem hx
      exact (h2 j _ (List.getElem?_eq_getElem hj)).2
/-- The contract of a law gives what the row asks. -/
theorem Spec.law {f : FuncId} {args : Array Value} {Ps : List PA} (s : Spec P f args Ps [] (fun v Ps' Os' => v = .bool true ∧ Ps' = [] ∧ Os' = [])) (W : World) (h : ∀ p, p ∈ Ps → p.p (hpOf W)) :
    Calls P f args W fun e W' => e = .returned (.bool true) ∧ Below W.heap.size W W' := by
  refine (s.calls W (hpOf W) Heap.nil Heap.nil ⟨Heap.le_refl _, Heap.nil_le _, Heap.dj_symm (Heap.nil_dj _), h, trivial⟩ (Heap.nil_le _) (Heap.nil_dj _) (Heap.nil_dj _)).mono ?_
  rintro e w' ⟨v, hp', ho', Ps', Os', rfl, ⟨rfl, _, _⟩, hs, hle, _, _, _, hr⟩
  refine ⟨rfl, hr.os, hr.tape, hr.output, hr.size, fun k hk => ?_⟩
  have h1 : hpOf W k = some W.heap[k] := by simp [hpOf, hk]
  have h2 := hs.inp _ _ (hle _ _ h1)
  unfold hpOf at h1 h2
  rw [h1, h2]
end
end Go.Proofs.YtkhddfknpegpmaaGreat.SL

/- The openings of this seat's types. -/
set_option linter.unusedVariables false
namespace Go.Proofs.YtkhddfknpegpmaaGreat.SL
theorem opU : Opens Tryz.prog 22 tU (fun n => 0 ≤ n ∧ n < 4294967296) := fun h => (opens_int Tryz.underlying22 h).imp fun v q => ⟨q.1, wf_u32 q.2⟩
theorem opUs : Opens Tryz.prog 50 (tSl tU) (fun xs => ∀ x ∈ xs, (fun n : Int => 0 ≤ n ∧ n < 4294967296) x) := opens_slice Tryz.underlying50 opU (by kernel_rfl) (by decide)
theorem opFa : Opens Tryz.prog 52 tFa Fa.ok := opens_iso (fun x : Fa => (x.p, x.a)) (fun b => ⟨b.1, b.2⟩) (opens_pair Tryz.underlying52 opU opUs rfl rfl (by kernel_rfl) (by kernel_rfl) (by kernel_rfl)) (fun b => rfl) (fun b g => g)
theorem opFas : Opens Tryz.prog 29 (tSl tFa) (fun xs => ∀ x ∈ xs, Fa.ok x) := opens_slice Tryz.underlying29 opFa (by kernel_rfl) (by decide)
theorem opTm : Opens Tryz.prog 58 tTm Tm.ok := opens_iso (fun x : Tm => (x.v, x.n)) (fun b => ⟨b.1, b.2⟩) (opens_pair Tryz.underlying58 (opens_bool Tryz.underlying4) opU rfl rfl (by kernel_rfl) (by kernel_rfl) (by kernel_rfl)) (fun b => rfl) (fun b g => g.2)
theorem opTms : Opens Tryz.prog 23 (tSl tTm) (fun xs => ∀ x ∈ xs, Tm.ok x) := opens_slice Tryz.underlying23 opTm (by kernel_rfl) (by decide)
theorem opAm : Opens Tryz.prog 25 tAm Am.ok := opens_iso (fun x : Am => (x.p, x.a)) (fun b => ⟨b.1, b.2⟩) (opens_pair Tryz.underlying25 opU opTms rfl rfl (by kernel_rfl) (by kernel_rfl) (by kernel_rfl)) (fun b => rfl) (fun b g => g)
theorem opLi : Opens Tryz.prog 61 tLi (fun x : Li => x.a.ok) := opens_iso (fun x : Li => (x.no, x.a)) (fun b => ⟨b.1, b.2⟩) (opens_pair Tryz.underlying61 (opens_bool Tryz.underlying4) opAm rfl rfl (by kernel_rfl) (by kernel_rfl) (by kernel_rfl)) (fun b => rfl) (fun b g => g.2)
theorem opLis : Opens Tryz.prog 26 (tSl tLi) (fun xs => ∀ x ∈ xs, (fun x : Li => x.a.ok) x) := opens_slice Tryz.underlying26 opLi (by kernel_rfl) (by decide)
theorem opCl : Opens Tryz.prog 28 tCl Cl.ok := opens_iso (fun x : Cl => (x.h, x.b)) (fun b => ⟨b.1, b.2⟩) (opens_pair Tryz.underlying28 opAm opLis rfl rfl (by kernel_rfl) (by kernel_rfl) (by kernel_rfl)) (fun b => rfl) (fun b g => ⟨g.1, g.2⟩)
theorem opCls : Opens Tryz.prog 39 (tSl tCl) (fun xs => ∀ x ∈ xs, Cl.ok x) := opens_slice Tryz.underlying39 opCl (by kernel_rfl) (by decide)
end Go.Proofs.YtkhddfknpegpmaaGreat.SL

/- Rows: how long an argument can be. -/
set_option linter.unusedVariables false
namespace Go.Proofs.YtkhddfknpegpmaaGreat.SL
theorem sized_len {H : Type} {enc : TypeId × Value → H} {P : Program} {W : World} {base : Nat} {sp : Nat → Bool} {hd : Bool} {fuel : Nat} {ts : List TypeId} {ds : List (DataW H)} {j : Nat} {t e : TypeId} {cs : List Value} {x : DataW H × List MemPlace} {A : Option Addr} {n c : Nat}
    (h : (DataW.weightsEach P ts ds).all (· ≤ reachBytes) = true) (ht : ts[j]? = some t) (hd' : ds[j]? = some x.1) (hu : P.underlying t = some (.slice e)) (hx : DataW.trod enc P W base sp hd fuel t cs = some x) (hc : cs = [.slice A n c]) (hb : Nat.ble 1 (P.bytesOf e) = true) : n ≤ 140737488351232 := by
  subst hc
  rcases Deep.open_slice hu hx with ⟨h1, _⟩ | ⟨a, len, cap, m, q, D, Pl, h1, _, _, _, _, rfl, _⟩
  · cases h1; omega
  · cases h1
    have := sized_slice h ht hd' hu
    have hb' := Nat.le_of_ble_eq_true hb
    have h2 : n ≤ n * P.bytesOf e := Nat.le_mul_of_pos_right _ hb'
    simp only [List.length_map, List.length_range] at this
    rw [Nat.add_mul] at this
    have h3 : reachBytes = 140737488351232 := rfl
    omega
end Go.Proofs.YtkhddfknpegpmaaGreat.SL

