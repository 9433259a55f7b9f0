/- Engine, data and contracts: parts of the proof, put together (Law13s Law13e). -/
import Derived.Test.YtkhddfknpegpmaaMG
import Derived.Test.YtkhddfknpegpmaaMC
/- Contracts of functions of the program (Law13s): what each call comes to, for the laws' proofs. -/
set_option linter.unusedVariables false
set_option linter.unusedSimpArgs false
namespace Go.Proofs.Ytkhddfknpegpmaa.SL
open Go 

set_option maxHeartbeats 2000000 in
set_option maxRecDepth 20000 in
theorem law13holds (c : Cl) (CA : Option Addr) (cc : Nat) (CB : Option Addr) (cd : Nat) (n : Int) :
    Spec Try.prog 37 #[.agg #[.int .u32 c.h.p, .slice CA c.h.a.length cc, .slice CB c.b.length cd], .int .u32 n] [sl tTm CA cc c.h.a, sl tLi CB cd c.b] [] (fun v Ps' Os' => v = .bool (decide (n ∈ heldBy c)) ∧ Ps' = [] ∧ Os' = []) := by
 refine spec_of (fn := Try.f37) (args := [.agg #[.int .u32 c.h.p, .slice CA c.h.a.length cc, .slice CB c.b.length cd], .int .u32 n]) 61 Try.func37 rfl (by kernel_rfl) Try.ntmps37 (Nat.le_of_ble_eq_true rfl) (fun w0 hp0 hf0 => ?_)
 refine go_seq ?_
 refine go_region rfl ?_
 refine go_box Tk rfl rfl rfl rfl (by rfl) rfl rfl (fun h => nomatch h) ?_
 intro bC
 refine go_pure0 Tk rfl rfl rfl ?_
 refine go_nil ?_
 refine go_freeze_pt (b := bC) (by repeat constructor) ?_
 refine go_env [(1, _), (2, _)] ⟨rfl, rfl, trivial⟩ ?_
 refine go_seq ?_
 refine go_seq ?_
 refine go_len (xs := c.b) (by repeat constructor) (fun l0 m0 => ?_)
 refine go_region rfl ?_
 refine go_pure0 Tk rfl rfl rfl ?_
 refine go_nil ?_
 refine go_env [(1, _), (2, _), (5, _)] ⟨rfl, rfl, rfl, trivial⟩ ?_
 refine go_block ?_
 refine go_loop' (X := Nat) (fun k => [(5, .int .i64 (k : Int))]) [(1, _), (2, _)] (fun _ => []) (fun k => k ≤ c.b.length ∧ ∀ l ∈ c.b.take k, ¬ (l.no = false ∧ ∃ t ∈ l.a.a, t.v = true ∧ t.n = n)) (fun k => c.b.length - k) (0) ⟨rfl, rfl, rfl, trivial⟩ (by repeat constructor) ⟨by omega, by simp⟩ ?_
 intro k ⟨hk, hz⟩
 refine go_seq ?_
 refine go_seq ?_
 refine go_region rfl ?_
 refine go_pure0 Tk rfl rfl rfl ?_
 refine go_pure0 Tk rfl rfl rfl ?_
 refine go_val0 rfl (ldv Tk rfl rfl rfl) rfl ?_
 refine go_pure0 Tk rfl rfl rfl ?_
 refine go_pure0 Tk rfl rfl rfl ?_
 refine go_nil ?_
 refine go_env [(1, _), (2, _), (5, _), (11, _)] ⟨rfl, rfl, rfl, rfl, trivial⟩ ?_
 refine go_condD rfl ?_ ?_
 ·intro hq1
  refine go_skip ?_
  refine go_seq ?_
  refine go_block ?_
  refine go_seq ?_
  refine go_elem_li (xs := c.b) (by repeat constructor) (k) (List.getElem?_eq_getElem (by omega)) (fun b1 o1 A2 c2 hA => ?_); cases hA
  refine go_len (xs := c.b[k].a.a) (by repeat constructor) (fun l1 m1 => ?_)
  refine go_region rfl ?_
  refine go_pure0 Tk rfl rfl rfl ?_
  refine go_nil ?_
  refine go_env [(1, _), (2, _), (5, _), (6, _)] ⟨rfl, rfl, rfl, rfl, trivial⟩ ?_
  refine go_block ?_
  refine go_loop' (X := Nat) (fun m => [(6, .int .i64 (m : Int))]) [(1, _), (2, _), (5, _)] (fun _ => []) (fun m => m ≤ c.b[k].a.a.length ∧ ∀ t ∈ c.b[k].a.a.take m, ¬ (c.b[k].no = false ∧ t.v = true ∧ t.n = n)) (fun m => c.b[k].a.a.length - m) (0) ⟨rfl, rfl, rfl, rfl, trivial⟩ (by repeat constructor) ⟨by omega, by simp⟩ ?_
  intro m ⟨hm, hy⟩
  refine go_seq ?_
  refine go_seq ?_
  refine go_region rfl ?_
  refine go_pure0 Tk rfl rfl rfl ?_
  refine go_pure0 Tk rfl rfl rfl ?_
  refine go_val0 rfl (ldv Tk rfl rfl rfl) rfl ?_
  refine go_pure0 Tk rfl rfl rfl ?_
  refine go_val0 rfl (idx_val Tk rfl rfl rfl rfl rfl (by omega)) rfl ?_
  refine go_pure0 Tk rfl rfl rfl ?_
  refine go_pure0 Tk rfl rfl rfl ?_
  refine go_val0 rfl (ldv Tk rfl rfl rfl) rfl ?_
  refine go_pure0 Tk rfl rfl rfl ?_
  refine go_pure0 Tk rfl rfl rfl ?_
  refine go_nil ?_
  refine go_env [(1, _), (2, _), (5, _), (6, _), (23, _)] ⟨rfl, rfl, rfl, rfl, rfl, trivial⟩ ?_
  refine go_condD rfl ?_ ?_
  ·intro hq2
   refine go_skip ?_
   refine go_seq ?_
   refine go_block ?_
   refine go_seq ?_
   refine go_elem_tm (xs := c.b[k].a.a) (by repeat constructor) (m) (List.getElem?_eq_getElem (by omega)) (fun b3 o3 hA => ?_); cases hA
   refine go_region rfl ?_
   refine go_pure0 Tk rfl rfl rfl ?_
   refine go_val0 rfl (ldv Tk rfl rfl rfl) rfl ?_
   refine go_pure0 Tk rfl rfl rfl ?_
   refine go_val0 rfl (idx_val Tk rfl rfl rfl rfl rfl (by omega)) rfl ?_
   refine go_pure0 Tk rfl rfl rfl ?_
   refine go_val0 rfl (ldv Tk rfl rfl rfl) rfl ?_
   refine go_pure0 Tk rfl rfl rfl ?_
   refine go_pure0 Tk rfl rfl rfl ?_
   refine go_known 33 rfl ?_ ?_
   ·intro g1
    (try simp only [decide_eq_true_eq, decide_eq_false_iff_not, Bool.not_eq_true', Bool.not_eq_false', Bool.not_eq_eq_eq_not, Bool.not_true, Bool.not_false, Int.not_lt, Int.not_le, beq_iff_eq, beq_eq_false_iff_ne, ne_eq] at g1)
    refine go_pure0 Tk rfl rfl rfl ?_
    refine go_val0 rfl (ldv Tk rfl rfl rfl) rfl ?_
    refine go_pure0 Tk rfl rfl rfl ?_
    refine go_val0 rfl (idx_val Tk rfl rfl rfl rfl rfl (by omega)) rfl ?_
    refine go_pure0 Tk rfl rfl rfl ?_
    refine go_pure0 Tk rfl rfl rfl ?_
    refine go_val0 rfl (ldv Tk rfl rfl rfl) rfl ?_
    refine go_pure0 Tk rfl rfl rfl ?_
    refine go_val0 rfl (idx_val Tk rfl rfl rfl rfl rfl (by omega)) rfl ?_
    refine go_pure0 Tk rfl rfl rfl ?_
    refine go_val0 rfl (ldv Tk rfl rfl rfl) rfl ?_
    refine go_pure0 Tk rfl rfl rfl ?_
    refine go_pure0 Tk rfl rfl rfl ?_
    refine go_known 46 rfl ?_ ?_
    ·intro g2
     (try simp only [decide_eq_true_eq, decide_eq_false_iff_not, Bool.not_eq_true', Bool.not_eq_false', Bool.not_eq_eq_eq_not, Bool.not_true, Bool.not_false, Int.not_lt, Int.not_le, beq_iff_eq, beq_eq_false_iff_ne, ne_eq] at g2)
     refine go_pure0 Tk rfl rfl rfl ?_
     refine go_val0 rfl (ldv Tk rfl rfl rfl) rfl ?_
     refine go_pure0 Tk rfl rfl rfl ?_
     refine go_val0 rfl (idx_val Tk rfl rfl rfl rfl rfl (by omega)) rfl ?_
     refine go_pure0 Tk rfl rfl rfl ?_
     refine go_pure0 Tk rfl rfl rfl ?_
     refine go_val0 rfl (ldv Tk rfl rfl rfl) rfl ?_
     refine go_pure0 Tk rfl rfl rfl ?_
     refine go_val0 rfl (idx_val Tk rfl rfl rfl rfl rfl (by omega)) rfl ?_
     refine go_pure0 Tk rfl rfl rfl ?_
     refine go_val0 rfl (ldv Tk rfl rfl rfl) rfl ?_
     refine go_pure0 Tk rfl rfl rfl ?_
     refine go_pure0 Tk rfl rfl rfl ?_
     refine go_pure0 Tk rfl rfl rfl ?_
     refine go_nil ?_
     refine go_env [(1, _), (2, _), (5, _), (6, _), (34, _), (35, _), (36, _), (37, _), (38, _), (39, _), (40, _), (41, _), (42, _), (43, _), (44, _), (47, _), (48, _), (49, _), (50, _), (51, _), (52, _), (53, _), (54, _), (55, _), (56, _), (57, _), (58, _), (59, _), (60, _)] ⟨rfl, rfl, rfl, rfl, rfl, rfl, rfl, rfl, rfl, rfl, rfl, rfl, rfl, rfl, rfl, rfl, rfl, rfl, rfl, rfl, rfl, rfl, rfl, rfl, rfl, rfl, rfl, rfl, rfl, trivial⟩ ?_
     refine go_cond rfl ?_ ?_
     ·intro g3
      (try simp only [decide_eq_true_eq, decide_eq_false_iff_not, Bool.not_eq_true', Bool.not_eq_false', Bool.not_eq_eq_eq_not, Bool.not_true, Bool.not_false, Int.not_lt, Int.not_le, beq_iff_eq, beq_eq_false_iff_ne, ne_eq] at g3)
      refine go_seq ?_
      refine go_region rfl ?_
      refine go_pure0 Tk rfl rfl rfl ?_
      refine go_nil ?_
      refine go_env [(4, _)] ⟨rfl, trivial⟩ ?_
      refine go_ret ⟨rfl, rfl⟩ _ _ (res1 (by rfl) (.tmp rfl)) ⟨by first | rw [decide_eq_true (mem_heldBy.2 ⟨c.b[k], List.getElem_mem _, g1, c.b[k].a.a[m], List.getElem_mem _, g2, g3⟩)] | (rw [decide_eq_false]; intro q; rw [mem_heldBy] at q; obtain ⟨l, hl, q⟩ := q; rw [List.take_of_length_le (by omega)] at hz; exact hz l hl q), rfl, rfl⟩ (by repeat constructor) (by repeat constructor)
     ·intro g3
      (try simp only [decide_eq_true_eq, decide_eq_false_iff_not, Bool.not_eq_true', Bool.not_eq_false', Bool.not_eq_eq_eq_not, Bool.not_true, Bool.not_false, Int.not_lt, Int.not_le, beq_iff_eq, beq_eq_false_iff_ne, ne_eq] at g3)
      refine go_skip ?_
      refine go_blk ?_
      refine go_region rfl ?_
      refine go_pure0 Tk rfl rfl rfl ?_
      refine go_pure0 Tk rfl rfl rfl ?_
      refine go_pure0 Tk rfl rfl rfl ?_
      refine go_nil ?_
      refine go_i64 6 rfl (by omega) (by omega) ?_
      refine go_back (m + 1) ⟨rfl, rfl, rfl, rfl, trivial⟩ (by repeat constructor) (by repeat constructor) (⟨by omega, mem_take_next (by omega) hy (fun q => by first | exact absurd (g1.symm.trans q.1) (by decide) | exact absurd (g2.symm.trans q.2.1) (by decide) | exact g3 q.2.2)⟩) (by omega)
    ·intro g2
     (try simp only [decide_eq_true_eq, decide_eq_false_iff_not, Bool.not_eq_true', Bool.not_eq_false', Bool.not_eq_eq_eq_not, Bool.not_true, Bool.not_false, Int.not_lt, Int.not_le, beq_iff_eq, beq_eq_false_iff_ne, ne_eq] at g2)
     refine go_skip0 rfl rfl ?_
     refine go_skip0 rfl rfl ?_
     refine go_skip0 rfl rfl ?_
     refine go_skip0 rfl rfl ?_
     refine go_skip0 rfl rfl ?_
     refine go_skip0 rfl rfl ?_
     refine go_skip0 rfl rfl ?_
     refine go_skip0 rfl rfl ?_
     refine go_skip0 rfl rfl ?_
     refine go_skip0 rfl rfl ?_
     refine go_skip0 rfl rfl ?_
     refine go_skip0 rfl rfl ?_
     refine go_skip0 rfl rfl ?_
     refine go_pure0 Tk rfl rfl rfl ?_
     refine go_nil ?_
     refine go_env [(1, _), (2, _), (5, _), (6, _), (34, _), (35, _), (36, _), (37, _), (38, _), (39, _), (40, _), (41, _), (42, _), (43, _), (44, _), (47, _), (48, _), (49, _), (50, _), (51, _), (52, _), (53, _), (54, _), (55, _), (56, _), (57, _), (58, _), (59, _), (60, _)] ⟨rfl, rfl, rfl, rfl, rfl, rfl, rfl, rfl, rfl, rfl, rfl, rfl, rfl, rfl, rfl, rfl, rfl, rfl, rfl, rfl, rfl, rfl, rfl, rfl, rfl, rfl, rfl, rfl, rfl, trivial⟩ ?_
     refine go_cond_f rfl ?_
     refine go_skip ?_
     refine go_blk ?_
     refine go_region rfl ?_
     refine go_pure0 Tk rfl rfl rfl ?_
     refine go_pure0 Tk rfl rfl rfl ?_
     refine go_pure0 Tk rfl rfl rfl ?_
     refine go_nil ?_
     refine go_i64 6 rfl (by omega) (by omega) ?_
     refine go_back (m + 1) ⟨rfl, rfl, rfl, rfl, trivial⟩ (by repeat constructor) (by repeat constructor) (⟨by omega, mem_take_next (by omega) hy (fun q => by first | exact absurd (g1.symm.trans q.1) (by decide) | exact absurd (g2.symm.trans q.2.1) (by decide) | exact g3 q.2.2)⟩) (by omega)
   ·intro g1
    (try simp only [decide_eq_true_eq, decide_eq_false_iff_not, Bool.not_eq_true', Bool.not_eq_false', Bool.not_eq_eq_eq_not, Bool.not_true, Bool.not_false, Int.not_lt, Int.not_le, beq_iff_eq, beq_eq_false_iff_ne, ne_eq] at g1)
    refine go_skip0 rfl rfl ?_
    refine go_skip0 rfl rfl ?_
    refine go_skip0 rfl rfl ?_
    refine go_skip0 rfl rfl ?_
    refine go_skip0 rfl rfl ?_
    refine go_skip0 rfl rfl ?_
    refine go_skip0 rfl rfl ?_
    refine go_skip0 rfl rfl ?_
    refine go_skip0 rfl rfl ?_
    refine go_skip0 rfl rfl ?_
    refine go_skip0 rfl rfl ?_
    refine go_pure0 Tk rfl rfl rfl ?_
    refine go_pure0 Tk rfl rfl rfl ?_
    refine go_skip0 rfl rfl ?_
    refine go_skip0 rfl rfl ?_
    refine go_skip0 rfl rfl ?_
    refine go_skip0 rfl rfl ?_
    refine go_skip0 rfl rfl ?_
    refine go_skip0 rfl rfl ?_
    refine go_skip0 rfl rfl ?_
    refine go_skip0 rfl rfl ?_
    refine go_skip0 rfl rfl ?_
    refine go_skip0 rfl rfl ?_
    refine go_skip0 rfl rfl ?_
    refine go_skip0 rfl rfl ?_
    refine go_skip0 rfl rfl ?_
    refine go_pure0 Tk rfl rfl rfl ?_
    refine go_nil ?_
    refine go_env [(1, _), (2, _), (5, _), (6, _), (34, _), (35, _), (36, _), (37, _), (38, _), (39, _), (40, _), (41, _), (42, _), (43, _), (44, _), (47, _), (48, _), (49, _), (50, _), (51, _), (52, _), (53, _), (54, _), (55, _), (56, _), (57, _), (58, _), (59, _), (60, _)] ⟨rfl, rfl, rfl, rfl, rfl, rfl, rfl, rfl, rfl, rfl, rfl, rfl, rfl, rfl, rfl, rfl, rfl, rfl, rfl, rfl, rfl, rfl, rfl, rfl, rfl, rfl, rfl, rfl, rfl, trivial⟩ ?_
    refine go_cond_f rfl ?_
    refine go_skip ?_
    refine go_blk ?_
    refine go_region rfl ?_
    refine go_pure0 Tk rfl rfl rfl ?_
    refine go_pure0 Tk rfl rfl rfl ?_
    refine go_pure0 Tk rfl rfl rfl ?_
    refine go_nil ?_
    refine go_i64 6 rfl (by omega) (by omega) ?_
    refine go_back (m + 1) ⟨rfl, rfl, rfl, rfl, trivial⟩ (by repeat constructor) (by repeat constructor) (⟨by omega, mem_take_next (by omega) hy (fun q => by first | exact absurd (g1.symm.trans q.1) (by decide) | exact absurd (g2.symm.trans q.2.1) (by decide) | exact g3 q.2.2)⟩) (by omega)
  ·intro hq2
   refine go_exit rfl ?_
   refine go_blk ?_
   refine go_region rfl ?_
   refine go_pure0 Tk rfl rfl rfl ?_
   refine go_pure0 Tk rfl rfl rfl ?_
   refine go_pure0 Tk rfl rfl rfl ?_
   refine go_nil ?_
   refine go_i64 5 rfl (by omega) (by omega) ?_
   refine go_back (k + 1) ⟨rfl, rfl, rfl, trivial⟩ (by repeat constructor) (by repeat constructor) (⟨by omega, mem_take_next (by omega) hz (by rintro ⟨q1, t, ht, q2, q3⟩; rw [List.take_of_length_le (by omega)] at hy; exact hy t ht ⟨q1, q2, q3⟩)⟩) (by omega)
 ·intro hq1
  refine go_exit rfl ?_
  refine go_seq ?_
  refine go_region rfl ?_
  refine go_pure0 Tk rfl rfl rfl ?_
  refine go_nil ?_
  refine go_env [(4, _)] ⟨rfl, trivial⟩ ?_
  refine go_ret ⟨rfl, rfl⟩ _ _ (res1 (by rfl) (.tmp rfl)) ⟨by first | rw [decide_eq_true (mem_heldBy.2 ⟨c.b[k], List.getElem_mem _, g1, c.b[k].a.a[m], List.getElem_mem _, g2, g3⟩)] | (rw [decide_eq_false]; intro q; rw [mem_heldBy] at q; obtain ⟨l, hl, q⟩ := q; rw [List.take_of_length_le (by omega)] at hz; exact hz l hl q), rfl, rfl⟩ (by repeat constructor) (by repeat constructor)

set_option maxHeartbeats 2000000 in
set_option maxRecDepth 20000 in
theorem law13safe (c : Cl) (CA : Option Addr) (cc : Nat) (CB : Option Addr) (cd : Nat) :
    Spec Try.prog 17 #[.agg #[.int .u32 c.h.p, .slice CA c.h.a.length cc, .slice CB c.b.length cd]] [sl tTm CA cc c.h.a, sl tLi CB cd c.b] [] (fun v Ps' Os' => v = .bool (heldC c) ∧ Ps' = [] ∧ Os' = []) := by
 refine spec_of (fn := Try.f17) (args := [.agg #[.int .u32 c.h.p, .slice CA c.h.a.length cc, .slice CB c.b.length cd]]) 80 Try.func17 rfl (by kernel_rfl) Try.ntmps17 (Nat.le_of_ble_eq_true rfl) (fun w0 hp0 hf0 => ?_)
 refine go_seq ?_
 refine go_region rfl ?_
 refine go_box Tk rfl rfl rfl rfl (by rfl) rfl rfl (fun h => nomatch h) ?_
 intro bC
 refine go_pure0 Tk rfl rfl rfl ?_
 refine go_nil ?_
 refine go_freeze_pt (b := bC) (by repeat constructor) ?_
 refine go_env [(1, _)] ⟨rfl, trivial⟩ ?_
 refine go_seq ?_
 refine go_seq ?_
 refine go_len (xs := c.h.a) (by repeat constructor) (fun l0 m0 => ?_)
 refine go_len (xs := c.b) (by repeat constructor) (fun l1 m1 => ?_)
 refine go_region rfl ?_
 refine go_pure0 Tk rfl rfl rfl ?_
 refine go_nil ?_
 refine go_env [(1, _), (3, _)] ⟨rfl, rfl, trivial⟩ ?_
 refine go_block ?_
 refine go_loop' (X := Nat) (fun k => [(3, .int .i64 (k : Int))]) [(1, _)] (fun _ => []) (fun k => k ≤ c.h.a.length ∧ ∀ t ∈ c.h.a.take k, t.v = true → t.n ∈ heldBy c) (fun k => c.h.a.length - k) (0) ⟨rfl, rfl, trivial⟩ (by repeat constructor) ⟨by omega, by simp⟩ ?_
 intro k ⟨hk, hz⟩
 refine go_seq ?_
 refine go_seq ?_
 refine go_region rfl ?_
 refine go_pure0 Tk rfl rfl rfl ?_
 refine go_pure0 Tk rfl rfl rfl ?_
 refine go_pure0 Tk rfl rfl rfl ?_
 refine go_val0 rfl (ldv Tk rfl rfl rfl) rfl ?_
 refine go_pure0 Tk rfl rfl rfl ?_
 refine go_pure0 Tk rfl rfl rfl ?_
 refine go_nil ?_
 refine go_env [(1, _), (3, _), (12, _)] ⟨rfl, rfl, rfl, trivial⟩ ?_
 refine go_condD rfl ?_ ?_
 ·intro hq1
  refine go_skip ?_
  refine go_seq ?_
  refine go_block ?_
  refine go_seq ?_
  refine go_elem_tm (xs := c.h.a) (by repeat constructor) (k) (List.getElem?_eq_getElem (by omega)) (fun b1 o1 hA => ?_); cases hA
  refine go_draw ([cl bC 0 [.int .u32 c.h.p, .slice (some ⟨b1, o1, none⟩) c.h.a.length cc, .slice CB c.b.length cd], cl b1 (o1 + k * 2) [.bool c.h.a[k].v, .int .u32 c.h.a[k].n]]) ([]) [2, 6, 8, 11, 15] (SL.pre [(1, 0), (1, 1), (1, 3), (2, 2), (1, 4), (1, 5), (2, 6), (1, 7), (1, 9), (1, 10), (1, 12), (2, 8), (2, 11), (1, 13), (1, 14), (2, 15), (0, 16), (1, 17), (1, 18)] .nil) mixed rfl (by kernel_rfl) ?_
  refine go_pure1 Tk rfl rfl rfl ?_
  refine go_pure1 Tk rfl rfl rfl ?_
  refine go_pure1 Tk rfl rfl rfl ?_
  refine go_val2a rfl (ldv Tk rfl rfl rfl) rfl ?_
  refine go_val1 rfl (idx_val Tk rfl rfl rfl rfl rfl (by omega)) rfl ?_
  refine go_pure1 Tk rfl rfl rfl ?_
  refine go_val2a rfl (ldv Tk rfl rfl rfl) rfl ?_
  refine go_pure1 Tk rfl rfl rfl ?_
  refine go_known 22 rfl ?_ ?_
  ·intro g1
   (try simp only [decide_eq_true_eq, decide_eq_false_iff_not, Bool.not_eq_true', Bool.not_eq_false', Bool.not_eq_eq_eq_not, Bool.not_true, Bool.not_false, Int.not_lt, Int.not_le, beq_iff_eq, beq_eq_false_iff_ne, ne_eq] at g1)
   refine go_pure1 Tk rfl rfl rfl ?_
   refine go_pure1 Tk rfl rfl rfl ?_
   refine go_pure1 Tk rfl rfl rfl ?_
   refine go_val2a rfl (ldv Tk rfl rfl rfl) rfl ?_
   refine go_val2a rfl (ldv Tk rfl rfl rfl) rfl ?_
   refine go_val1 rfl (idx_val Tk rfl rfl rfl rfl rfl (by omega)) rfl ?_
   refine go_pure1 Tk rfl rfl rfl ?_
   refine go_val2a rfl (ldv Tk rfl rfl rfl) rfl ?_
   refine go_call (law13holds c (some ⟨b1, o1, none⟩) cc CB cd c.h.a[k].n) rfl rfl (by rfl) rfl (by repeat constructor) (by repeat constructor) (fun h => nomatch h) ?_
   rintro _ _ _ ⟨rfl, rfl, rfl⟩
   refine go_pure1 Tk rfl rfl rfl ?_
   refine go_pure1 Tk rfl rfl rfl ?_
   refine go_nil ?_
   refine go_env [(1, _), (3, _), (23, _), (24, _), (25, _), (26, _), (27, _), (28, _), (29, _), (30, _), (31, _), (32, _), (33, _)] ⟨rfl, rfl, rfl, rfl, rfl, rfl, rfl, rfl, rfl, rfl, rfl, rfl, rfl, trivial⟩ ?_
   refine go_cond rfl ?_ ?_
   ·intro g2
    (try simp only [decide_eq_true_eq, decide_eq_false_iff_not, Bool.not_eq_true', Bool.not_eq_false', Bool.not_eq_eq_eq_not, Bool.not_true, Bool.not_false, Int.not_lt, Int.not_le, beq_iff_eq, beq_eq_false_iff_ne, ne_eq] at g2)
    refine go_seq ?_
    refine go_region rfl ?_
    refine go_pure0 Tk rfl rfl rfl ?_
    refine go_nil ?_
    refine go_env [(2, _)] ⟨rfl, trivial⟩ ?_
    refine go_ret ⟨rfl, rfl⟩ _ _ (res1 (by rfl) (.tmp rfl)) ⟨by rw [heldC_no (fun q => g2 (q.1 _ (List.getElem_mem _) g1))], rfl, rfl⟩ (by repeat constructor) (by repeat constructor)
   ·intro g2
    (try simp only [decide_eq_true_eq, decide_eq_false_iff_not, Bool.not_eq_true', Bool.not_eq_false', Bool.not_eq_eq_eq_not, Bool.not_true, Bool.not_false, Int.not_lt, Int.not_le, beq_iff_eq, beq_eq_false_iff_ne, ne_eq] at g2)
    refine go_skip ?_
    refine go_blk ?_
    refine go_region rfl ?_
    refine go_pure0 Tk rfl rfl rfl ?_
    refine go_pure0 Tk rfl rfl rfl ?_
    refine go_pure0 Tk rfl rfl rfl ?_
    refine go_nil ?_
    refine go_i64 3 rfl (by omega) (by omega) ?_
    refine go_back (k + 1) ⟨rfl, rfl, trivial⟩ (by repeat constructor) (by repeat constructor) (⟨by omega, mem_take_next (by omega) hz (fun q => by first | exact absurd (g1.symm.trans q) (by decide) | exact g2)⟩) (by omega)
  ·intro g1
   (try simp only [decide_eq_true_eq, decide_eq_false_iff_not, Bool.not_eq_true', Bool.not_eq_false', Bool.not_eq_eq_eq_not, Bool.not_true, Bool.not_false, Int.not_lt, Int.not_le, beq_iff_eq, beq_eq_false_iff_ne, ne_eq] at g1)
   refine go_skip1 rfl rfl ?_
   refine go_skip1 rfl rfl ?_
   refine go_skip1 rfl rfl ?_
   refine go_skip2 rfl (by repeat constructor) (by repeat constructor) rfl ?_
   refine go_skip2 rfl (by repeat constructor) (by repeat constructor) rfl ?_
   refine go_skip1 rfl rfl ?_
   refine go_skip1 rfl rfl ?_
   refine go_skip2 rfl (by repeat constructor) (by repeat constructor) rfl ?_
   refine go_skip0 rfl rfl ?_
   refine go_skip1 rfl rfl ?_
   refine go_pure1 Tk rfl rfl rfl ?_
   refine go_nil ?_
   refine go_env [(1, _), (3, _), (23, _), (24, _), (25, _), (26, _), (27, _), (28, _), (29, _), (30, _), (31, _), (32, _), (33, _)] ⟨rfl, rfl, rfl, rfl, rfl, rfl, rfl, rfl, rfl, rfl, rfl, rfl, rfl, trivial⟩ ?_
   refine go_cond_f rfl ?_
   refine go_skip ?_
   refine go_blk ?_
   refine go_region rfl ?_
   refine go_pure0 Tk rfl rfl rfl ?_
   refine go_pure0 Tk rfl rfl rfl ?_
   refine go_pure0 Tk rfl rfl rfl ?_
   refine go_nil ?_
   refine go_i64 3 rfl (by omega) (by omega) ?_
   refine go_back (k + 1) ⟨rfl, rfl, trivial⟩ (by repeat constructor) (by repeat constructor) (⟨by omega, mem_take_next (by omega) hz (fun q => by first | exact absurd (g1.symm.trans q) (by decide) | exact g2)⟩) (by omega)
 ·intro hq1
  refine go_exit rfl ?_
  refine go_seq ?_
  refine go_seq ?_
  rw [List.take_of_length_le (by omega)] at hz
  refine go_region rfl ?_
  refine go_pure0 Tk rfl rfl rfl ?_
  refine go_nil ?_
  refine go_env [(1, _), (4, _)] ⟨rfl, rfl, trivial⟩ ?_
  refine go_block ?_
  refine go_loop' (X := Nat) (fun j => [(4, .int .i64 (j : Int))]) [(1, _)] (fun _ => []) (fun j => j ≤ c.b.length ∧ ∀ l ∈ c.b.take j, l.no = true → ∀ t ∈ l.a.a, t.v = true → t.n ∈ heldBy c) (fun j => c.b.length - j) (0) ⟨rfl, rfl, trivial⟩ (by repeat constructor) ⟨by omega, by simp⟩ ?_
  intro j ⟨hj, hw⟩
  refine go_seq ?_
  refine go_seq ?_
  refine go_region rfl ?_
  refine go_pure0 Tk rfl rfl rfl ?_
  refine go_pure0 Tk rfl rfl rfl ?_
  refine go_val0 rfl (ldv Tk rfl rfl rfl) rfl ?_
  refine go_pure0 Tk rfl rfl rfl ?_
  refine go_pure0 Tk rfl rfl rfl ?_
  refine go_nil ?_
  refine go_env [(1, _), (4, _), (38, _)] ⟨rfl, rfl, rfl, trivial⟩ ?_
  refine go_condD rfl ?_ ?_
  ·intro hq2
   refine go_skip ?_
   refine go_seq ?_
   refine go_block ?_
   refine go_seq ?_
   refine go_elem_li (xs := c.b) (by repeat constructor) (j) (List.getElem?_eq_getElem (by omega)) (fun b4 o4 A4 c4 hA => ?_); cases hA
   refine go_len (xs := c.b[j].a.a) (by repeat constructor) (fun l2 m2 => ?_)
   refine go_region rfl ?_
   refine go_pure0 Tk rfl rfl rfl ?_
   refine go_nil ?_
   refine go_env [(1, _), (4, _), (5, _)] ⟨rfl, rfl, rfl, trivial⟩ ?_
   refine go_block ?_
   refine go_loop' (X := Nat) (fun m => [(5, .int .i64 (m : Int))]) [(1, _), (4, _)] (fun _ => []) (fun m => m ≤ c.b[j].a.a.length ∧ ∀ t ∈ c.b[j].a.a.take m, c.b[j].no = true → t.v = true → t.n ∈ heldBy c) (fun m => c.b[j].a.a.length - m) (0) ⟨rfl, rfl, rfl, trivial⟩ (by repeat constructor) ⟨by omega, by simp⟩ ?_
   intro m ⟨hm, hy⟩
   refine go_seq ?_
   refine go_seq ?_
   refine go_region rfl ?_
   refine go_pure0 Tk rfl rfl rfl ?_
   refine go_pure0 Tk rfl rfl rfl ?_
   refine go_val0 rfl (ldv Tk rfl rfl rfl) rfl ?_
   refine go_pure0 Tk rfl rfl rfl ?_
   refine go_val0 rfl (idx_val Tk rfl rfl rfl rfl rfl (by omega)) rfl ?_
   refine go_pure0 Tk rfl rfl rfl ?_
   refine go_pure0 Tk rfl rfl rfl ?_
   refine go_val0 rfl (ldv Tk rfl rfl rfl) rfl ?_
   refine go_pure0 Tk rfl rfl rfl ?_
   refine go_pure0 Tk rfl rfl rfl ?_
   refine go_nil ?_
   refine go_env [(1, _), (4, _), (5, _), (50, _)] ⟨rfl, rfl, rfl, rfl, trivial⟩ ?_
   refine go_condD rfl ?_ ?_
   ·intro hq3
    refine go_skip ?_
    refine go_seq ?_
    refine go_block ?_
    refine go_seq ?_
    refine go_elem_tm (xs := c.b[j].a.a) (by repeat constructor) (m) (List.getElem?_eq_getElem (by omega)) (fun b5 o5 hA => ?_); cases hA
    refine go_region rfl ?_
    refine go_pure0 Tk rfl rfl rfl ?_
    refine go_val0 rfl (ldv Tk rfl rfl rfl) rfl ?_
    refine go_pure0 Tk rfl rfl rfl ?_
    refine go_val0 rfl (idx_val Tk rfl rfl rfl rfl rfl (by omega)) rfl ?_
    refine go_pure0 Tk rfl rfl rfl ?_
    refine go_pure0 Tk rfl rfl rfl ?_
    refine go_val0 rfl (ldv Tk rfl rfl rfl) rfl ?_
    refine go_pure0 Tk rfl rfl rfl ?_
    refine go_val0 rfl (idx_val Tk rfl rfl rfl rfl rfl (by omega)) rfl ?_
    refine go_val0 rfl (ldv Tk rfl rfl rfl) rfl ?_
    refine go_alloc Tk rfl rfl rfl (by rfl) rfl rfl (fun h => nomatch h) ?_
    intro bT
    refine go_store Tk rfl rfl rfl rfl rfl rfl (by repeat constructor) rfl rfl (by rfl) (fun h => nomatch h) ?_
    refine go_nil ?_
    refine go_freeze_pt (b := bT) (by repeat constructor) ?_
    refine go_env [(1, _), (4, _), (5, _), (6, _)] ⟨rfl, rfl, rfl, rfl, trivial⟩ ?_
    refine go_seq ?_
    refine go_region rfl ?_
    refine go_pure0 Tk rfl rfl rfl ?_
    refine go_val0 rfl (ldv Tk rfl rfl rfl) rfl ?_
    refine go_pure0 Tk rfl rfl rfl ?_
    refine go_val0 rfl (idx_val Tk rfl rfl rfl rfl rfl (by omega)) rfl ?_
    refine go_pure0 Tk rfl rfl rfl ?_
    refine go_val0 rfl (ldv Tk rfl rfl rfl) rfl ?_
    refine go_pure0 Tk rfl rfl rfl ?_
    refine go_known 69 rfl ?_ ?_
    ·intro g3
     (try simp only [decide_eq_true_eq, decide_eq_false_iff_not, Bool.not_eq_true', Bool.not_eq_false', Bool.not_eq_eq_eq_not, Bool.not_true, Bool.not_false, Int.not_lt, Int.not_le, beq_iff_eq, beq_eq_false_iff_ne, ne_eq] at g3)
     refine go_pure0 Tk rfl rfl rfl ?_
     refine go_val0 rfl (ldv Tk rfl rfl rfl) rfl ?_
     refine go_pure0 Tk rfl rfl rfl ?_
     refine go_pure0 Tk rfl rfl rfl ?_
     refine go_known 73 rfl ?_ ?_
     ·intro g4
      (try simp only [decide_eq_true_eq, decide_eq_false_iff_not, Bool.not_eq_true', Bool.not_eq_false', Bool.not_eq_eq_eq_not, Bool.not_true, Bool.not_false, Int.not_lt, Int.not_le, beq_iff_eq, beq_eq_false_iff_ne, ne_eq] at g4)
      refine go_val0 rfl (ldv Tk rfl rfl rfl) rfl ?_
      refine go_pure0 Tk rfl rfl rfl ?_
      refine go_val0 rfl (ldv Tk rfl rfl rfl) rfl ?_
      refine go_call (law13holds c CA cc (some ⟨b4, o4, none⟩) cd c.b[j].a.a[m].n) rfl rfl (by rfl) rfl (by repeat constructor) (by repeat constructor) (fun h => nomatch h) ?_
      rintro _ _ _ ⟨rfl, rfl, rfl⟩
      refine go_pure0 Tk rfl rfl rfl ?_
      refine go_pure0 Tk rfl rfl rfl ?_
      refine go_nil ?_
      refine go_env [(1, _), (4, _), (5, _), (70, _), (71, _), (74, _), (75, _), (76, _), (77, _), (78, _), (79, _)] ⟨rfl, rfl, rfl, rfl, rfl, rfl, rfl, rfl, rfl, rfl, rfl, trivial⟩ ?_
      refine go_cond rfl ?_ ?_
      ·intro g5
       (try simp only [decide_eq_true_eq, decide_eq_false_iff_not, Bool.not_eq_true', Bool.not_eq_false', Bool.not_eq_eq_eq_not, Bool.not_true, Bool.not_false, Int.not_lt, Int.not_le, beq_iff_eq, beq_eq_false_iff_ne, ne_eq] at g5)
       refine go_seq ?_
       refine go_region rfl ?_
       refine go_pure0 Tk rfl rfl rfl ?_
       refine go_nil ?_
       refine go_env [(2, _)] ⟨rfl, trivial⟩ ?_
       refine go_ret ⟨rfl, rfl⟩ _ _ (res1 (by rfl) (.tmp rfl)) ⟨by rw [heldC_no (fun q => g5 (q.2 _ (List.getElem_mem _) g3 _ (List.getElem_mem _) g4))], rfl, rfl⟩ (by repeat constructor) (by repeat constructor)
      ·intro g5
       (try simp only [decide_eq_true_eq, decide_eq_false_iff_not, Bool.not_eq_true', Bool.not_eq_false', Bool.not_eq_eq_eq_not, Bool.not_true, Bool.not_false, Int.not_lt, Int.not_le, beq_iff_eq, beq_eq_false_iff_ne, ne_eq] at g5)
       refine go_skip ?_
       refine go_blk ?_
       refine go_region rfl ?_
       refine go_pure0 Tk rfl rfl rfl ?_
       refine go_pure0 Tk rfl rfl rfl ?_
       refine go_pure0 Tk rfl rfl rfl ?_
       refine go_nil ?_
       refine go_i64 5 rfl (by omega) (by omega) ?_
       refine go_back (m + 1) ⟨rfl, rfl, rfl, trivial⟩ (by repeat constructor) (by repeat constructor) (⟨by omega, mem_take_next (by omega) hy (fun q1 q2 => by first | exact absurd (g3.symm.trans q1) (by decide) | exact absurd (g4.symm.trans q2) (by decide) | exact g5)⟩) (by omega)
     ·intro g4
      (try simp only [decide_eq_true_eq, decide_eq_false_iff_not, Bool.not_eq_true', Bool.not_eq_false', Bool.not_eq_eq_eq_not, Bool.not_true, Bool.not_false, Int.not_lt, Int.not_le, beq_iff_eq, beq_eq_false_iff_ne, ne_eq] at g4)
      refine go_skip0 rfl rfl ?_
      refine go_skip0 rfl rfl ?_
      refine go_skip0 rfl rfl ?_
      refine go_skip0 rfl rfl ?_
      refine go_skip0 rfl rfl ?_
      refine go_pure0 Tk rfl rfl rfl ?_
      refine go_nil ?_
      refine go_env [(1, _), (4, _), (5, _), (70, _), (71, _), (74, _), (75, _), (76, _), (77, _), (78, _), (79, _)] ⟨rfl, rfl, rfl, rfl, rfl, rfl, rfl, rfl, rfl, rfl, rfl, trivial⟩ ?_
      refine go_cond_f rfl ?_
      refine go_skip ?_
      refine go_blk ?_
      refine go_region rfl ?_
      refine go_pure0 Tk rfl rfl rfl ?_
      refine go_pure0 Tk rfl rfl rfl ?_
      refine go_pure0 Tk rfl rfl rfl ?_
      refine go_nil ?_
      refine go_i64 5 rfl (by omega) (by omega) ?_
      refine go_back (m + 1) ⟨rfl, rfl, rfl, trivial⟩ (by repeat constructor) (by repeat constructor) (⟨by omega, mem_take_next (by omega) hy (fun q1 q2 => by first | exact absurd (g3.symm.trans q1) (by decide) | exact absurd (g4.symm.trans q2) (by decide) | exact g5)⟩) (by omega)
    ·intro g3
     (try simp only [decide_eq_true_eq, decide_eq_false_iff_not, Bool.not_eq_true', Bool.not_eq_false', Bool.not_eq_eq_eq_not, Bool.not_true, Bool.not_false, Int.not_lt, Int.not_le, beq_iff_eq, beq_eq_false_iff_ne, ne_eq] at g3)
     refine go_skip0 rfl rfl ?_
     refine go_skip0 rfl rfl ?_
     refine go_pure0 Tk rfl rfl rfl ?_
     refine go_pure0 Tk rfl rfl rfl ?_
     refine go_skip0 rfl rfl ?_
     refine go_skip0 rfl rfl ?_
     refine go_skip0 rfl rfl ?_
     refine go_skip0 rfl rfl ?_
     refine go_skip0 rfl rfl ?_
     refine go_pure0 Tk rfl rfl rfl ?_
     refine go_nil ?_
     refine go_env [(1, _), (4, _), (5, _), (70, _), (71, _), (74, _), (75, _), (76, _), (77, _), (78, _), (79, _)] ⟨rfl, rfl, rfl, rfl, rfl, rfl, rfl, rfl, rfl, rfl, rfl, trivial⟩ ?_
     refine go_cond_f rfl ?_
     refine go_skip ?_
     refine go_blk ?_
     refine go_region rfl ?_
     refine go_pure0 Tk rfl rfl rfl ?_
     refine go_pure0 Tk rfl rfl rfl ?_
     refine go_pure0 Tk rfl rfl rfl ?_
     refine go_nil ?_
     refine go_i64 5 rfl (by omega) (by omega) ?_
     refine go_back (m + 1) ⟨rfl, rfl, rfl, trivial⟩ (by repeat constructor) (by repeat constructor) (⟨by omega, mem_take_next (by omega) hy (fun q1 q2 => by first | exact absurd (g3.symm.trans q1) (by decide) | exact absurd (g4.symm.trans q2) (by decide) | exact g5)⟩) (by omega)
   ·intro hq3
    refine go_exit rfl ?_
    refine go_blk ?_
    refine go_region rfl ?_
    refine go_pure0 Tk rfl rfl rfl ?_
    refine go_pure0 Tk rfl rfl rfl ?_
    refine go_pure0 Tk rfl rfl rfl ?_
    refine go_nil ?_
    refine go_i64 4 rfl (by omega) (by omega) ?_
    refine go_back (j + 1) ⟨rfl, rfl, trivial⟩ (by repeat constructor) (by repeat constructor) (⟨by omega, mem_take_next (by omega) hw (fun q t ht et => by rw [List.take_of_length_le (by omega)] at hy; exact hy t ht q et)⟩) (by omega)
  ·intro hq2
   refine go_exit rfl ?_
   refine go_seq ?_
   refine go_region rfl ?_
   refine go_pure0 Tk rfl rfl rfl ?_
   refine go_nil ?_
   refine go_env [(2, _)] ⟨rfl, trivial⟩ ?_
   refine go_ret ⟨rfl, rfl⟩ _ _ (res1 (by rfl) (.tmp rfl)) ⟨by rw [heldC_iff.2 ⟨hz, by rw [List.take_of_length_le (by omega)] at hw; exact hw⟩], rfl, rfl⟩ (by repeat constructor) (by repeat constructor)

end Go.Proofs.Ytkhddfknpegpmaa.SL

/- Contracts of functions of the program (Law13e): what each call comes to, for the laws' proofs. -/
set_option linter.unusedVariables false
set_option linter.unusedSimpArgs false
namespace Go.Proofs.Ytkhddfknpegpmaa.SL
open Go 

/-- A clause whose literals are one's own is asked. -/
theorem joinHeadsO (c : Cl) (CA : Option Addr) (cc : Nat) (CB : Option Addr) (cd : Nat) (pf pn : Option Addr) (F N : List Fa) (hs : JoinS F [] N) (hok : c.ok) (hb : (goL c F [] N c.b ch0 true).length ≤ 50000000) :
    Spec Try.prog 10 #[.agg #[.int .u32 c.h.p, .slice CA c.h.a.length cc, .slice CB c.b.length cd], .pointer pf, .pointer pn] [sl tTm CA cc c.h.a, relN pf F, relN pn N] [ol tLi 44 CB cd c.b] (fun v Ps' Os' => ∃ A k, v = .slice A (headsC c F [] N false).length k ∧ Ps' = [] ∧ Os' = [ol tLi 44 CB cd c.b, dl tFa 41 A k (headsC c F [] N false)]) :=
  (((joinHeadsAll c CA cc CB cd pf pn F N hs hok hb).less (Ps' := [sl tLi CB cd c.b, sl tTm CA cc c.h.a, relN pf F, relN pn N]) (fun q hq => by
    simp only [List.mem_cons, List.not_mem_nil, or_false] at hq ⊢
    rcases hq with h | h | h | h <;> simp [h])).lend (ol tLi 44 CB cd c.b) lend_ol (fun v P' O' ⟨A, k, _, h2, h3⟩ => ⟨h2, fun B hB => by rw [h3, List.mem_singleton] at hB; subst hB; exact fun _ _ _ q => q⟩)).imp fun v P' O' ⟨O2, ⟨A, k, h1, _, h3⟩, h4, h5⟩ => ⟨A, k, h1, h4, by rw [h5, h3]⟩

set_option maxHeartbeats 8000000 in
set_option maxRecDepth 20000 in
theorem lawJoinBodies (c : Cl) (CA : Option Addr) (cc : Nat) (CB : Option Addr) (cd : Nat) (hok : c.ok) (a : List Fa) (A1 : Option Addr) (k1 : Nat) (ga : ∀ x ∈ a, x.ok) (za : a.length ≤ 140737488351232) (d : List Fa) (A3 : Option Addr) (k3 : Nat) (gd : ∀ x ∈ d, x.ok) (zd : d.length ≤ 140737488351232) (od : List Int) (OA_ : Option Addr) (oc : Nat) (god : ∀ x ∈ od, 0 ≤ x ∧ x < 256) (m : Li) (MA : Option Addr) (mc : Nat) (gm : m.a.ok) :
    Spec Try.prog 5 #[.agg #[.int .u32 c.h.p, .slice CA c.h.a.length cc, .slice CB c.b.length cd], .slice A1 a.length k1, .slice A3 d.length k3, .slice OA_ od.length oc, .agg #[.bool m.no, .int .u32 m.a.p, .slice MA m.a.a.length mc]] [sl tTm CA cc c.h.a, sl tLi CB cd c.b, sl tFa A1 k1 a, sl tFa A3 k3 d, sl (tInt .u8) OA_ oc od, sl tTm MA mc m.a.a] [] (fun v Ps' Os' => v = .bool true ∧ Ps' = [] ∧ Os' = []) := by
 refine spec_of (fn := Try.f5) (args := [.agg #[.int .u32 c.h.p, .slice CA c.h.a.length cc, .slice CB c.b.length cd], .slice A1 a.length k1, .slice A3 d.length k3, .slice OA_ od.length oc, .agg #[.bool m.no, .int .u32 m.a.p, .slice MA m.a.a.length mc]]) 178 Try.func5 rfl (by kernel_rfl) Try.ntmps5 (Nat.le_of_ble_eq_true rfl) (fun w0 hp0 hf0 => ?_)
 refine go_seq ?_
 refine go_region rfl ?_
 refine go_box Tk rfl rfl rfl rfl (by rfl) rfl rfl (fun h => nomatch h) ?_
 intro bC
 refine go_box Tk rfl rfl rfl rfl (by rfl) rfl rfl (fun h => nomatch h) ?_
 intro bM
 refine go_pure0 Tk rfl rfl rfl ?_
 refine go_nil ?_
 refine go_freeze_pt (b := bC) (by repeat constructor) ?_
 refine go_freeze_pt (b := bM) (by repeat constructor) ?_
 refine go_ent (sl tFa none 0 []) (fun h _ => Sl_nil tFa h) ?_
 refine go_len (xs := od) (by repeat constructor) (fun lo mo => ?_)
 refine go_len (xs := c.b) (by repeat constructor) (fun lb mb => ?_)
 refine go_len (xs := m.a.a) (by repeat constructor) (fun lm mm => ?_)
 refine go_env [(1, _), (2, _), (3, _), (5, _), (9, _)] ⟨rfl, rfl, rfl, rfl, rfl, trivial⟩ ?_
 refine go_seq ?_
 refine go_seq ?_
 refine go_region rfl ?_
 refine go_val0 rfl (ldv Tk rfl rfl rfl) rfl ?_
 refine go_pure0 Tk rfl rfl rfl ?_
 refine go_pure0 Tk rfl rfl rfl ?_
 refine go_call (law13few c CA cc CB cd A1 k1 a A3 k3 d none 0 [] (by omega) (by omega)) rfl rfl (by rfl) rfl (by repeat constructor) (by repeat constructor) (fun h => nomatch h) ?_
 rintro _ _ _ ⟨rfl, rfl, rfl⟩
 refine go_pure0 Tk rfl rfl rfl ?_
 refine go_pure0 Tk rfl rfl rfl ?_
 refine go_known 25 rfl ?_ ?_
 ·intro f1
  (try simp only [decide_eq_true_eq, decide_eq_false_iff_not, Bool.not_eq_true', Bool.not_eq_false', Bool.not_eq_eq_eq_not, Bool.not_true, Bool.not_false, Int.not_lt, Int.not_le, beq_iff_eq, beq_eq_false_iff_ne, ne_eq] at f1)
  refine go_skip0 rfl rfl ?_
  refine go_skip0 rfl rfl ?_
  refine go_skip0 rfl rfl ?_
  refine go_pure0 Tk rfl rfl rfl ?_
  refine go_pure0 Tk rfl rfl rfl ?_
  refine go_skip0 rfl rfl ?_
  refine go_skip0 rfl rfl ?_
  refine go_skip0 rfl rfl ?_
  refine go_skip0 rfl rfl ?_
  refine go_pure0 Tk rfl rfl rfl ?_
  refine go_pure0 Tk rfl rfl rfl ?_
  refine go_skip0 rfl rfl ?_
  refine go_skip0 rfl rfl ?_
  refine go_skip0 rfl rfl ?_
  refine go_skip0 rfl rfl ?_
  refine go_pure0 Tk rfl rfl rfl ?_
  refine go_pure0 Tk rfl rfl rfl ?_
  refine go_skip0 rfl rfl ?_
  refine go_skip0 rfl rfl ?_
  refine go_skip0 rfl rfl ?_
  refine go_skip0 rfl rfl ?_
  refine go_skip0 rfl rfl ?_
  refine go_pure0 Tk rfl rfl rfl ?_
  refine go_nil ?_
  refine go_env [(1, _), (2, _), (3, _), (5, _), (9, _), (48, _)] ⟨rfl, rfl, rfl, rfl, rfl, rfl, trivial⟩ ?_
  refine go_cond_t rfl ?_
  refine go_seq ?_
  refine go_region rfl ?_
  refine go_call (lawWorks13) rfl rfl (by rfl) rfl (by repeat constructor) (by repeat constructor) (fun h => nomatch h) ?_
  rintro _ _ _ ⟨rfl, rfl, rfl⟩
  refine go_pure0 Tk rfl rfl rfl ?_
  refine go_nil ?_
  refine go_env [(10, _)] ⟨rfl, trivial⟩ ?_
  refine go_ret ⟨rfl, rfl⟩ _ _ (res1 (by rfl) (.tmp rfl)) ⟨rfl, rfl, rfl⟩ (by repeat constructor) (by repeat constructor)
 ·intro f1
  (try simp only [decide_eq_true_eq, decide_eq_false_iff_not, Bool.not_eq_true', Bool.not_eq_false', Bool.not_eq_eq_eq_not, Bool.not_true, Bool.not_false, Int.not_lt, Int.not_le, beq_iff_eq, beq_eq_false_iff_ne, ne_eq] at f1)
  refine go_pure0 Tk rfl rfl rfl ?_
  refine go_pure0 Tk rfl rfl rfl ?_
  refine go_pure0 Tk rfl rfl rfl ?_
  refine go_pure0 Tk rfl rfl rfl ?_
  refine go_pure0 Tk rfl rfl rfl ?_
  refine go_known 30 rfl ?_ ?_
  ·intro f2
   (try simp only [decide_eq_true_eq, decide_eq_false_iff_not, Bool.not_eq_true', Bool.not_eq_false', Bool.not_eq_eq_eq_not, Bool.not_true, Bool.not_false, Int.not_lt, Int.not_le, beq_iff_eq, beq_eq_false_iff_ne, ne_eq] at f2)
   refine go_skip0 rfl rfl ?_
   refine go_skip0 rfl rfl ?_
   refine go_skip0 rfl rfl ?_
   refine go_skip0 rfl rfl ?_
   refine go_pure0 Tk rfl rfl rfl ?_
   refine go_pure0 Tk rfl rfl rfl ?_
   refine go_skip0 rfl rfl ?_
   refine go_skip0 rfl rfl ?_
   refine go_skip0 rfl rfl ?_
   refine go_skip0 rfl rfl ?_
   refine go_pure0 Tk rfl rfl rfl ?_
   refine go_pure0 Tk rfl rfl rfl ?_
   refine go_skip0 rfl rfl ?_
   refine go_skip0 rfl rfl ?_
   refine go_skip0 rfl rfl ?_
   refine go_skip0 rfl rfl ?_
   refine go_skip0 rfl rfl ?_
   refine go_pure0 Tk rfl rfl rfl ?_
   refine go_nil ?_
   refine go_env [(1, _), (2, _), (3, _), (5, _), (9, _), (48, _)] ⟨rfl, rfl, rfl, rfl, rfl, rfl, trivial⟩ ?_
   refine go_cond_t rfl ?_
   refine go_seq ?_
   refine go_region rfl ?_
   refine go_call (lawWorks13) rfl rfl (by rfl) rfl (by repeat constructor) (by repeat constructor) (fun h => nomatch h) ?_
   rintro _ _ _ ⟨rfl, rfl, rfl⟩
   refine go_pure0 Tk rfl rfl rfl ?_
   refine go_nil ?_
   refine go_env [(10, _)] ⟨rfl, trivial⟩ ?_
   refine go_ret ⟨rfl, rfl⟩ _ _ (res1 (by rfl) (.tmp rfl)) ⟨rfl, rfl, rfl⟩ (by repeat constructor) (by repeat constructor)
  ·intro f2
   (try simp only [decide_eq_true_eq, decide_eq_false_iff_not, Bool.not_eq_true', Bool.not_eq_false', Bool.not_eq_eq_eq_not, Bool.not_true, Bool.not_false, Int.not_lt, Int.not_le, beq_iff_eq, beq_eq_false_iff_ne, ne_eq] at f2)
   refine go_pure0 Tk rfl rfl rfl ?_
   refine go_val0 rfl (ldv Tk rfl rfl rfl) rfl ?_
   refine go_pure0 Tk rfl rfl rfl ?_
   refine go_pure0 Tk rfl rfl rfl ?_
   refine go_pure0 Tk rfl rfl rfl ?_
   refine go_pure0 Tk rfl rfl rfl ?_
   refine go_known 36 rfl ?_ ?_
   ·intro f3
    (try simp only [decide_eq_true_eq, decide_eq_false_iff_not, Bool.not_eq_true', Bool.not_eq_false', Bool.not_eq_eq_eq_not, Bool.not_true, Bool.not_false, Int.not_lt, Int.not_le, beq_iff_eq, beq_eq_false_iff_ne, ne_eq] at f3)
    refine go_skip0 rfl rfl ?_
    refine go_skip0 rfl rfl ?_
    refine go_skip0 rfl rfl ?_
    refine go_skip0 rfl rfl ?_
    refine go_pure0 Tk rfl rfl rfl ?_
    refine go_pure0 Tk rfl rfl rfl ?_
    refine go_skip0 rfl rfl ?_
    refine go_skip0 rfl rfl ?_
    refine go_skip0 rfl rfl ?_
    refine go_skip0 rfl rfl ?_
    refine go_skip0 rfl rfl ?_
    refine go_pure0 Tk rfl rfl rfl ?_
    refine go_nil ?_
    refine go_env [(1, _), (2, _), (3, _), (5, _), (9, _), (48, _)] ⟨rfl, rfl, rfl, rfl, rfl, rfl, trivial⟩ ?_
    refine go_cond_t rfl ?_
    refine go_seq ?_
    refine go_region rfl ?_
    refine go_call (lawWorks13) rfl rfl (by rfl) rfl (by repeat constructor) (by repeat constructor) (fun h => nomatch h) ?_
    rintro _ _ _ ⟨rfl, rfl, rfl⟩
    refine go_pure0 Tk rfl rfl rfl ?_
    refine go_nil ?_
    refine go_env [(10, _)] ⟨rfl, trivial⟩ ?_
    refine go_ret ⟨rfl, rfl⟩ _ _ (res1 (by rfl) (.tmp rfl)) ⟨rfl, rfl, rfl⟩ (by repeat constructor) (by repeat constructor)
   ·intro f3
    (try simp only [decide_eq_true_eq, decide_eq_false_iff_not, Bool.not_eq_true', Bool.not_eq_false', Bool.not_eq_eq_eq_not, Bool.not_true, Bool.not_false, Int.not_lt, Int.not_le, beq_iff_eq, beq_eq_false_iff_ne, ne_eq] at f3)
    refine go_pure0 Tk rfl rfl rfl ?_
    refine go_val0 rfl (ldv Tk rfl rfl rfl) rfl ?_
    refine go_pure0 Tk rfl rfl rfl ?_
    refine go_pure0 Tk rfl rfl rfl ?_
    refine go_pure0 Tk rfl rfl rfl ?_
    refine go_pure0 Tk rfl rfl rfl ?_
    refine go_known 42 rfl ?_ ?_
    ·intro f4
     (try simp only [decide_eq_true_eq, decide_eq_false_iff_not, Bool.not_eq_true', Bool.not_eq_false', Bool.not_eq_eq_eq_not, Bool.not_true, Bool.not_false, Int.not_lt, Int.not_le, beq_iff_eq, beq_eq_false_iff_ne, ne_eq] at f4)
     refine go_skip0 rfl rfl ?_
     refine go_skip0 rfl rfl ?_
     refine go_skip0 rfl rfl ?_
     refine go_skip0 rfl rfl ?_
     refine go_skip0 rfl rfl ?_
     refine go_pure0 Tk rfl rfl rfl ?_
     refine go_nil ?_
     refine go_env [(1, _), (2, _), (3, _), (5, _), (9, _), (48, _)] ⟨rfl, rfl, rfl, rfl, rfl, rfl, trivial⟩ ?_
     refine go_cond_t rfl ?_
     refine go_seq ?_
     refine go_region rfl ?_
     refine go_call (lawWorks13) rfl rfl (by rfl) rfl (by repeat constructor) (by repeat constructor) (fun h => nomatch h) ?_
     rintro _ _ _ ⟨rfl, rfl, rfl⟩
     refine go_pure0 Tk rfl rfl rfl ?_
     refine go_nil ?_
     refine go_env [(10, _)] ⟨rfl, trivial⟩ ?_
     refine go_ret ⟨rfl, rfl⟩ _ _ (res1 (by rfl) (.tmp rfl)) ⟨rfl, rfl, rfl⟩ (by repeat constructor) (by repeat constructor)
    ·intro f4
     (try simp only [decide_eq_true_eq, decide_eq_false_iff_not, Bool.not_eq_true', Bool.not_eq_false', Bool.not_eq_eq_eq_not, Bool.not_true, Bool.not_false, Int.not_lt, Int.not_le, beq_iff_eq, beq_eq_false_iff_ne, ne_eq] at f4)
     refine go_pure0 Tk rfl rfl rfl ?_
     refine go_pure0 Tk rfl rfl rfl ?_
     refine go_val0 rfl (ldv Tk rfl rfl rfl) rfl ?_
     refine go_pure0 Tk rfl rfl rfl ?_
     refine go_pure0 Tk rfl rfl rfl ?_
     refine go_pure0 Tk rfl rfl rfl ?_
     refine go_nil ?_
     refine go_env [(1, _), (2, _), (3, _), (5, _), (9, _), (48, _)] ⟨rfl, rfl, rfl, rfl, rfl, rfl, trivial⟩ ?_
     refine go_cond rfl ?_ ?_
     ·intro f5
      (try simp only [decide_eq_true_eq, decide_eq_false_iff_not, Bool.not_eq_true', Bool.not_eq_false', Bool.not_eq_eq_eq_not, Bool.not_true, Bool.not_false, Int.not_lt, Int.not_le, beq_iff_eq, beq_eq_false_iff_ne, ne_eq] at f5)
      refine go_seq ?_
      refine go_region rfl ?_
      refine go_call (lawWorks13) rfl rfl (by rfl) rfl (by repeat constructor) (by repeat constructor) (fun h => nomatch h) ?_
      rintro _ _ _ ⟨rfl, rfl, rfl⟩
      refine go_pure0 Tk rfl rfl rfl ?_
      refine go_nil ?_
      refine go_env [(10, _)] ⟨rfl, trivial⟩ ?_
      refine go_ret ⟨rfl, rfl⟩ _ _ (res1 (by rfl) (.tmp rfl)) ⟨rfl, rfl, rfl⟩ (by repeat constructor) (by repeat constructor)
     ·intro f5
      (try simp only [decide_eq_true_eq, decide_eq_false_iff_not, Bool.not_eq_true', Bool.not_eq_false', Bool.not_eq_eq_eq_not, Bool.not_true, Bool.not_false, Int.not_lt, Int.not_le, beq_iff_eq, beq_eq_false_iff_ne, ne_eq] at f5)
      refine go_skip ?_
      refine go_seq ?_
      have fp := few13_of f1
      have hall := few13_all fp ga gd (fun x hx => nomatch hx)
      have hsm := fp.2.2.1
      have hlens : a.length + d.length ≤ 60 := fp.1
      have hla : ∀ x ∈ a, x.a.length ≤ 30 := fun x hx => (hall x (List.mem_append_left _ (List.mem_append_left _ hx))).2
      have hld : ∀ x ∈ d, x.a.length ≤ 30 := fun x hx => (hall x (List.mem_append_left _ (List.mem_append_right _ hx))).2
      have hpos : c.b.length < 8 ∧ (posN c.b ≤ 3 ∧ a.length + d.length ≤ 60 ∨ posN c.b ≤ 7 ∧ a.length + d.length ≤ 8) := by
        have h := hsm
        unfold smallC at h
        rw [decide_eq_true_eq] at h
        have h2 := posN_le c.b
        have h3 : pos c.b = posN c.b := rfl
        rw [h3] at h
        omega
      refine go_draw ([cl bC 0 [.int .u32 c.h.p, .slice CA c.h.a.length cc, .slice CB c.b.length cd]]) ([]) [0] (SL.pre [(1, 1), (1, 3), (2, 0), (0, 2), (0, 4), (0, 5), (1, 6)] .nil) mixed rfl (by kernel_rfl) ?_
      refine go_pure1 Tk rfl rfl rfl ?_
      refine go_pure1 Tk rfl rfl rfl ?_
      refine go_val2a rfl (ldv Tk rfl rfl rfl) rfl ?_
      refine go_call (relOf A1 k1 a (by omega) (fun x hx => Nat.le_trans (hla x hx) (by omega))) rfl rfl (by rfl) rfl (by repeat constructor) (by repeat constructor) (fun _ v Ps' Os' hq => by obtain ⟨r1, rfl, rfl, rfl⟩ := hq; exact satS (by repeat constructor) (by repeat constructor)) ?_
      rintro _ _ _ ⟨r1, rfl, rfl, rfl⟩
      refine go_freeze_rel (b := r1) (by repeat constructor) ?_
      refine go_ent (relN (some ⟨r1, 0, none⟩) (fof a)) (fun hh hps => relN_some (hps (relP r1 (fof a)) (by repeat constructor))) ?_
      refine go_call (relOf A3 k3 d (by omega) (fun x hx => Nat.le_trans (hld x hx) (by omega))) rfl rfl (by rfl) rfl (by repeat constructor) (by repeat constructor) (fun _ v Ps' Os' hq => by obtain ⟨r2, rfl, rfl, rfl⟩ := hq; exact satS (by repeat constructor) (by repeat constructor)) ?_
      rintro _ _ _ ⟨r2, rfl, rfl, rfl⟩
      refine go_freeze_rel (b := r2) (by repeat constructor) ?_
      refine go_ent (relN (some ⟨r2, 0, none⟩) (fof d)) (fun hh hps => relN_some (hps (relP r2 (fof d)) (by repeat constructor))) ?_
      refine go_call (joinHeadsAll c CA cc CB cd (some ⟨r1, 0, none⟩) (some ⟨r2, 0, none⟩) (fof a) (fof d) (js_small (F := a) (R := []) (N := d) (fun x hx => ⟨ga x hx, Nat.le_trans (hla x hx) (by omega)⟩) (by omega) (by simp) (by omega)) hok (Nat.le_trans (goL_len _ _ _ _ _ _ _) (pow_small (n := a.length + d.length) (by have h : posN c.b = posN c.b := rfl; have hp := hpos; simp only [posN] at h hp ⊢; omega) (Nat.le_trans (fof_len a) (by omega))))) rfl rfl (by rfl) rfl (by repeat constructor) (by repeat constructor) (fun h => nomatch h) ?_
      rintro _ _ _ ⟨D1, e1, rfl, rfl, rfl⟩
      refine go_freeze_dl (T := tFa) (A := D1) (xs := headsC c (fof a) [] (fof d) false) (by repeat constructor) ?_
      refine go_pure1 Tk rfl rfl rfl ?_
      refine go_nil ?_
      refine go_env [(1, _), (2, _), (3, _), (5, _), (9, _), (11, _)] ⟨rfl, rfl, rfl, rfl, rfl, rfl, trivial⟩ ?_
      refine go_seq ?_
      refine go_cutO (X := Option Addr × Nat × Nat) (fun x => [(12, .pointer (some ⟨x.2.2, 0, none⟩))]) [(1, _), (2, _), (3, _), (5, _), (9, _), (11, _)] (fun x => [pt x.2.2 28 [.int .u32 c.h.p, .slice CA c.h.a.length cc, .slice x.1 c.b.length x.2.1], ol tLi 44 x.1 x.2.1 c.b]) ([]) (fun _ => True) ⟨rfl, rfl, rfl, rfl, rfl, rfl, trivial⟩ (by repeat constructor) ?_ ?_
      ·skip
       refine go_draw ([cl bC 0 [.int .u32 c.h.p, .slice CA c.h.a.length cc, .slice CB c.b.length cd]]) ([]) [1, 4] (SL.pre [(1, 0), (1, 3), (2, 1), (2, 4)] (.two (SL.pre [(0, 2)] (.two (SL.pre [(0, 5), (1, 6), (0, 7), (0, 8)] .nil) (SL.pre [(0, 7), (0, 5), (1, 6), (0, 8)] .nil))) (SL.pre [(0, 7), (0, 2), (0, 5), (1, 6), (0, 8)] .nil))) mixed rfl (by kernel_rfl) ?_
       refine go_pure1 Tk rfl rfl rfl ?_
       refine go_pure1 Tk rfl rfl rfl ?_
       refine go_val2a rfl (ldv Tk rfl rfl rfl) rfl ?_
       refine go_val2a rfl (ldv Tk rfl rfl rfl) rfl ?_
       refine go_two ?_ ?_
       ·skip
        refine go_bslice Tk rfl rfl rfl rfl rfl rfl rfl rfl (fun _ _ => satA) ?_
        intro bz
        refine go_lit_ol (b := bz) tLi [] (by repeat constructor) (fun _ _ => rfl) (by simp) ?_
        refine go_two ?_ ?_
        ·skip
         refine go_appendN (T := tLi) (xs := []) (ys := c.b) Tk rfl rfl rfl rfl rfl rfl rfl rfl rfl (by repeat constructor) rfl (by repeat constructor) (by simp only [List.length_nil]; omega) (by first | exact (fun _ _ _ => satA) | exact (fun h => nomatch h) | exact (fun h => nomatch (Eq.symm h).trans (show _ = false by kernel_rfl))) ?_
         intro B1 j1
         rw [List.nil_append]
         refine go_val1 rfl (fun a w hp ho hf hs => build_val Tk rfl rfl rfl (by rfl) a w hf) rfl ?_
         refine go_alloc Tk rfl rfl rfl (by rfl) rfl rfl (fun _ _ => satA) ?_
         intro bD
         refine go_store Tk rfl rfl rfl rfl rfl rfl (by repeat constructor) rfl rfl (by rfl) (fun h => nomatch h) ?_
         refine go_nil ?_
         refine go_back (B1, j1, bD) ⟨rfl, rfl, rfl, rfl, rfl, rfl, rfl, trivial⟩ (by repeat constructor) (by repeat constructor) trivial (by decide)
        refine go_alloc Tk rfl rfl rfl (by rfl) rfl rfl (fun _ _ => satA) ?_
        intro bD
        refine go_appendN (T := tLi) (xs := []) (ys := c.b) Tk rfl rfl rfl rfl rfl rfl rfl rfl rfl (by repeat constructor) rfl (by repeat constructor) (by simp only [List.length_nil]; omega) (by first | exact (fun _ _ _ => satA) | exact (fun h => nomatch h) | exact (fun h => nomatch (Eq.symm h).trans (show _ = false by kernel_rfl))) ?_
        intro B1 j1
        rw [List.nil_append]
        refine go_val1 rfl (fun a w hp ho hf hs => build_val Tk rfl rfl rfl (by rfl) a w hf) rfl ?_
        refine go_store Tk rfl rfl rfl rfl rfl rfl (by repeat constructor) rfl rfl (by rfl) (fun h => nomatch h) ?_
        refine go_nil ?_
        refine go_back (B1, j1, bD) ⟨rfl, rfl, rfl, rfl, rfl, rfl, rfl, trivial⟩ (by repeat constructor) (by repeat constructor) trivial (by decide)
       refine go_alloc Tk rfl rfl rfl (by rfl) rfl rfl (fun _ _ => satA) ?_
       intro bD
       refine go_bslice Tk rfl rfl rfl rfl rfl rfl rfl rfl (fun _ _ => satA) ?_
       intro bz
       refine go_lit_ol (b := bz) tLi [] (by repeat constructor) (fun _ _ => rfl) (by simp) ?_
       refine go_appendN (T := tLi) (xs := []) (ys := c.b) Tk rfl rfl rfl rfl rfl rfl rfl rfl rfl (by repeat constructor) rfl (by repeat constructor) (by simp only [List.length_nil]; omega) (by first | exact (fun _ _ _ => satA) | exact (fun h => nomatch h) | exact (fun h => nomatch (Eq.symm h).trans (show _ = false by kernel_rfl))) ?_
       intro B1 j1
       rw [List.nil_append]
       refine go_val1 rfl (fun a w hp ho hf hs => build_val Tk rfl rfl rfl (by rfl) a w hf) rfl ?_
       refine go_store Tk rfl rfl rfl rfl rfl rfl (by repeat constructor) rfl rfl (by rfl) (fun h => nomatch h) ?_
       refine go_nil ?_
       refine go_back (B1, j1, bD) ⟨rfl, rfl, rfl, rfl, rfl, rfl, rfl, trivial⟩ (by repeat constructor) (by repeat constructor) trivial (by decide)
      intro ⟨B1, j1, bD⟩ _
      simp only
      refine go_seq ?_
      refine go_seq ?_
      refine go_ol_addr (xs := c.b) (by repeat constructor) (by omega) (fun bo hA => ?_); subst hA
      refine go_toLy (l := c.b) (by repeat constructor) (fun xs0 hxm hxl => ?_)
      refine go_region rfl ?_
      refine go_pure0 Tk rfl rfl rfl ?_
      refine go_nil ?_
      refine go_env [(1, _), (2, _), (3, _), (5, _), (9, _), (11, _), (12, _), (13, _)] ⟨rfl, rfl, rfl, rfl, rfl, rfl, rfl, rfl, trivial⟩ ?_
      refine go_block ?_
      refine go_loop' (X := Nat × List Ly) (fun x => [(13, .int .i64 (x.1 : Int))]) [(1, _), (2, _), (3, _), (5, _), (9, _), (11, _), (12, _)] (fun x => [pt bD 28 [.int .u32 c.h.p, .slice CA c.h.a.length cc, .slice (some ⟨bo, 0, none⟩) c.b.length j1], ol tLy 44 (some ⟨bo, 0, none⟩) j1 x.2]) (fun x => x.1 ≤ od.length ∧ x.2.length = c.b.length ∧ List.Perm (x.2.map (fun x : Ly => x.l)) c.b) (fun x => od.length - x.1) ((0, xs0)) ⟨rfl, rfl, rfl, rfl, rfl, rfl, rfl, rfl, trivial⟩ (by repeat constructor) ⟨by omega, hxl, by rw [hxm]⟩ ?_
      intro ⟨i, xs⟩ ⟨hi, hxs, hpm⟩
      simp only at hi hxs hpm ⊢
      refine go_seq ?_
      refine go_seq ?_
      refine go_region rfl ?_
      refine go_pure0 Tk rfl rfl rfl ?_
      refine go_pure0 Tk rfl rfl rfl ?_
      refine go_i64 64 rfl (by omega) (by omega) ?_
      refine go_pure0 Tk rfl rfl rfl ?_
      refine go_pure0 Tk rfl rfl rfl ?_
      refine go_pure0 Tk rfl rfl rfl ?_
      refine go_nil ?_
      refine go_env [(1, _), (2, _), (3, _), (5, _), (9, _), (11, _), (12, _), (13, _), (67, _)] ⟨rfl, rfl, rfl, rfl, rfl, rfl, rfl, rfl, rfl, trivial⟩ ?_
      refine go_condD rfl ?_ ?_
      ·intro hq1
       refine go_skip ?_
       refine go_seq ?_
       refine go_block ?_
       refine go_seq ?_
       refine go_elem_int (xs := od) (by repeat constructor) (i) (List.getElem?_eq_getElem (by omega)) (fun b5 o5 hA => ?_); cases hA
       obtain ⟨x, hx, hxe⟩ := rem_idx (n := c.b.length) (god od[i] (List.getElem_mem _)).1 (by omega)
       have hodi := god od[i] (List.getElem_mem _)
       refine go_draw ([cl b5 (o5 + i * 1) [.int .u8 od[i]]]) ([pt bD 28 [.int .u32 c.h.p, .slice CA c.h.a.length cc, .slice (some ⟨bo, 0, none⟩) c.b.length j1]]) [3, 6] (SL.pre [(1, 0), (1, 1), (1, 2), (1, 5), (2, 3), (1, 4), (2, 6), (1, 7), (1, 8), (1, 9)] .nil) mixed rfl (by kernel_rfl) ?_
       refine go_pure1 Tk rfl rfl rfl ?_
       refine go_pure1 Tk rfl rfl rfl ?_
       refine go_val1 rfl (idx_val Tk rfl rfl rfl rfl rfl (by omega)) rfl ?_
       refine go_pure1 Tk rfl rfl rfl ?_
       refine go_val2a rfl (ldv Tk rfl rfl rfl) rfl ?_
       refine go_pure1 Tk rfl rfl rfl ?_
       refine go_i64 74 rfl (by omega) (by omega) ?_
       refine go_val2a rfl (ldv Tk rfl rfl rfl) rfl ?_
       refine go_pure1 Tk rfl rfl rfl ?_
       refine go_val1 rfl (rem_val rfl rfl rfl (by omega)) rfl ?_
       refine go_re 78 (.int .i64 (x : Int)) (by show some (Value.int _ _) = _; rw [hxe]) ?_
       refine go_pure1 Tk rfl rfl rfl ?_
       refine go_nil ?_
       refine go_env [(1, _), (2, _), (3, _), (5, _), (9, _), (11, _), (12, _), (13, _), (14, _)] ⟨rfl, rfl, rfl, rfl, rfl, rfl, rfl, rfl, rfl, trivial⟩ ?_
       refine go_seq ?_
       refine go_elem_int (xs := od) (by repeat constructor) ((i + 1)) (List.getElem?_eq_getElem (by omega)) (fun b6 o6 hA => ?_); cases hA
       obtain ⟨y, hy, hye⟩ := rem_idx (n := c.b.length) (god od[i + 1] (List.getElem_mem _)).1 (by omega)
       have hodi2 := god od[i + 1] (List.getElem_mem _)
       refine go_draw ([cl b5 (o5 + (i + 1) * 1) [.int .u8 od[i + 1]]]) ([pt bD 28 [.int .u32 c.h.p, .slice CA c.h.a.length cc, .slice (some ⟨bo, 0, none⟩) c.b.length j1]]) [4, 7] (SL.pre [(1, 0), (1, 1), (1, 2), (1, 3), (1, 6), (2, 4), (1, 5), (2, 7), (1, 8), (1, 9), (1, 10)] .nil) mixed rfl (by kernel_rfl) ?_
       refine go_pure1 Tk rfl rfl rfl ?_
       refine go_pure1 Tk rfl rfl rfl ?_
       refine go_pure1 Tk rfl rfl rfl ?_
       refine go_i64 81 rfl (by omega) (by omega) ?_
       refine go_re 81 (.int .i64 ((i + 1 : Nat) : Int)) (by rfl) ?_
       refine go_val1 rfl (idx_val Tk rfl rfl rfl rfl rfl (by omega)) rfl ?_
       refine go_pure1 Tk rfl rfl rfl ?_
       refine go_val2a rfl (ldv Tk rfl rfl rfl) rfl ?_
       refine go_pure1 Tk rfl rfl rfl ?_
       refine go_i64 84 rfl (by omega) (by omega) ?_
       refine go_val2a rfl (ldv Tk rfl rfl rfl) rfl ?_
       refine go_pure1 Tk rfl rfl rfl ?_
       refine go_val1 rfl (rem_val rfl rfl rfl (by omega)) rfl ?_
       refine go_re 88 (.int .i64 (y : Int)) (by show some (Value.int _ _) = _; rw [hye]) ?_
       refine go_pure1 Tk rfl rfl rfl ?_
       refine go_nil ?_
       refine go_env [(1, _), (2, _), (3, _), (5, _), (9, _), (11, _), (12, _), (13, _), (14, _), (15, _)] ⟨rfl, rfl, rfl, rfl, rfl, rfl, rfl, rfl, rfl, rfl, trivial⟩ ?_
       refine go_atLy (xs := xs) (by repeat constructor) x (List.getElem?_eq_getElem (by omega)) ?_
       refine go_atLy (xs := xs) (by repeat constructor) y (List.getElem?_eq_getElem (by omega)) ?_
       refine go_draw ([]) ([pt bD 28 [.int .u32 c.h.p, .slice CA c.h.a.length cc, .slice (some ⟨bo, 0, none⟩) c.b.length j1]]) [1, 4, 7, 12] (SL.pre [(1, 0), (1, 2), (1, 3), (1, 5), (1, 6), (1, 8), (1, 11), (1, 13), (2, 1), (2, 4), (2, 7), (1, 9), (2, 12), (1, 14)] (.two (SL.pre [(0, 10), (0, 15), (1, 16), (0, 17), (1, 18), (0, 19)] .nil) (SL.pre [(0, 15), (0, 10), (1, 16), (0, 17), (1, 18), (0, 19)] .nil))) mixed rfl (by kernel_rfl) ?_
       refine go_pure1 Tk rfl rfl rfl ?_
       refine go_pure1 Tk rfl rfl rfl ?_
       refine go_pure1 Tk rfl rfl rfl ?_
       refine go_pure1 Tk rfl rfl rfl ?_
       refine go_pure1 Tk rfl rfl rfl ?_
       refine go_pure1 Tk rfl rfl rfl ?_
       refine go_pure1 Tk rfl rfl rfl ?_
       refine go_pure1 Tk rfl rfl rfl ?_
       refine go_val2a rfl (ldv Tk rfl rfl rfl) rfl ?_
       refine go_val2a rfl (ldv Tk rfl rfl rfl) rfl ?_
       refine go_val2a rfl (ldv Tk rfl rfl rfl) rfl ?_
       refine go_val1 rfl (idx_val Tk rfl rfl rfl rfl rfl (by omega)) rfl ?_
       refine go_val2a rfl (ldv Tk rfl rfl rfl) rfl ?_
       refine go_val1 rfl (idx_val Tk rfl rfl rfl rfl rfl (by omega)) rfl ?_
       refine go_two ?_ ?_
       ·skip
        refine go_val0f rfl (load_val Tk rfl rfl rfl (at_olp fcLy fcLy_eq (xs := xs) (by repeat constructor) (y) (List.getElem?_eq_getElem (by omega)) rfl rfl) rfl) satA rfl ?_
        refine go_val0f rfl (load_val Tk rfl rfl rfl (at_olp fcLy fcLy_eq (xs := xs) (by repeat constructor) (x) (List.getElem?_eq_getElem (by omega)) rfl rfl) rfl) satA rfl ?_
        refine go_val1 rfl (idx_val Tk rfl rfl rfl rfl rfl (by omega)) rfl ?_
        refine go_store_el (T := tLy) (xs := xs) (j := x) Tk (xs[y]) rfl rfl rfl rfl rfl rfl (by repeat constructor) (by omega) rfl rfl (ent_Ly (by repeat constructor)) (by first | exact (fun _ => satS (by repeat constructor) (by repeat constructor)) | exact (fun h => nomatch h) | exact (fun h => nomatch (Eq.symm h).trans (show _ = false by kernel_rfl))) ?_
        refine go_val1 rfl (idx_val Tk rfl rfl rfl rfl rfl (by omega)) rfl ?_
        refine go_store_el (T := tLy) (xs := xs.set x xs[y]) (j := y) Tk (xs[x]) rfl rfl rfl rfl rfl rfl (by repeat constructor) (by rw [List.length_set]; omega) rfl rfl (ent_Ly (by repeat constructor)) (by first | exact (fun _ => satS (by repeat constructor) (by repeat constructor)) | exact (fun h => nomatch h) | exact (fun h => nomatch (Eq.symm h).trans (show _ = false by kernel_rfl))) ?_
        refine go_nil ?_
        refine go_env [(1, _), (2, _), (3, _), (5, _), (9, _), (11, _), (12, _), (13, _)] ⟨rfl, rfl, rfl, rfl, rfl, rfl, rfl, rfl, trivial⟩ ?_
        refine go_blk ?_
        refine go_region rfl ?_
        refine go_pure0 Tk rfl rfl rfl ?_
        refine go_pure0 Tk rfl rfl rfl ?_
        skip
        refine go_pure0 Tk rfl rfl rfl ?_
        refine go_nil ?_
        refine go_i64 13 rfl (by omega) (by omega) ?_
        refine go_back (i + 2, (xs.set x xs[y]).set y xs[x]) ⟨rfl, rfl, rfl, rfl, rfl, rfl, rfl, rfl, trivial⟩ (by repeat constructor) (by repeat constructor) ⟨by show i + 2 ≤ _; omega, by simpa using hxs, perm_swap hpm (by omega) (by omega)⟩ (by show od.length - (i + 2) < od.length - i; omega)
       refine go_val0f rfl (load_val Tk rfl rfl rfl (at_olp fcLy fcLy_eq (xs := xs) (by repeat constructor) (x) (List.getElem?_eq_getElem (by omega)) rfl rfl) rfl) satA rfl ?_
       refine go_val0f rfl (load_val Tk rfl rfl rfl (at_olp fcLy fcLy_eq (xs := xs) (by repeat constructor) (y) (List.getElem?_eq_getElem (by omega)) rfl rfl) rfl) satA rfl ?_
       refine go_val1 rfl (idx_val Tk rfl rfl rfl rfl rfl (by omega)) rfl ?_
       refine go_store_el (T := tLy) (xs := xs) (j := x) Tk (xs[y]) rfl rfl rfl rfl rfl rfl (by repeat constructor) (by omega) rfl rfl (ent_Ly (by repeat constructor)) (by first | exact (fun _ => satS (by repeat constructor) (by repeat constructor)) | exact (fun h => nomatch h) | exact (fun h => nomatch (Eq.symm h).trans (show _ = false by kernel_rfl))) ?_
       refine go_val1 rfl (idx_val Tk rfl rfl rfl rfl rfl (by omega)) rfl ?_
       refine go_store_el (T := tLy) (xs := xs.set x xs[y]) (j := y) Tk (xs[x]) rfl rfl rfl rfl rfl rfl (by repeat constructor) (by rw [List.length_set]; omega) rfl rfl (ent_Ly (by repeat constructor)) (by first | exact (fun _ => satS (by repeat constructor) (by repeat constructor)) | exact (fun h => nomatch h) | exact (fun h => nomatch (Eq.symm h).trans (show _ = false by kernel_rfl))) ?_
       refine go_nil ?_
       refine go_env [(1, _), (2, _), (3, _), (5, _), (9, _), (11, _), (12, _), (13, _)] ⟨rfl, rfl, rfl, rfl, rfl, rfl, rfl, rfl, trivial⟩ ?_
       refine go_blk ?_
       refine go_region rfl ?_
       refine go_pure0 Tk rfl rfl rfl ?_
       refine go_pure0 Tk rfl rfl rfl ?_
       skip
       refine go_pure0 Tk rfl rfl rfl ?_
       refine go_nil ?_
       refine go_i64 13 rfl (by omega) (by omega) ?_
       refine go_back (i + 2, (xs.set x xs[y]).set y xs[x]) ⟨rfl, rfl, rfl, rfl, rfl, rfl, rfl, rfl, trivial⟩ (by repeat constructor) (by repeat constructor) ⟨by show i + 2 ≤ _; omega, by simpa using hxs, perm_swap hpm (by omega) (by omega)⟩ (by show od.length - (i + 2) < od.length - i; omega)
      ·intro hq1
       refine go_exit rfl ?_
       refine go_seq ?_
       refine go_ofLy (xs := xs) (by repeat constructor) ?_
       obtain ⟨l1, hl1⟩ : ∃ l1, l1 = xs.map (fun x : Ly => x.l) := ⟨_, rfl⟩
       rw [← hl1] at hpm ⊢
       have hll : l1.length = c.b.length := hpm.length_eq
       have hp1 := posN_perm hpm
       have hp2 : posN (l1 ++ [l1[0]]) ≤ posN c.b + 1 := by rw [posN_app, hp1]; have := posN_le [l1[0]]; simp only [List.length_singleton] at this; omega
       have hp3 : posN (l1 ++ [m]) ≤ posN c.b + 1 := by rw [posN_app, hp1]; have := posN_le [m]; simp only [List.length_singleton] at this; omega
       have hm1 : ∀ l, l ∈ l1 ↔ l ∈ c.b := fun l => hpm.mem_iff
       have hm2 : ∀ l, l ∈ (l1 ++ [l1[0]]) ↔ l ∈ c.b := fun l => by rw [List.mem_append, List.mem_singleton, ← hm1]; exact ⟨fun h => h.elim id (fun e => e ▸ List.getElem_mem _), .inl⟩
       have ok1 : Cl.ok (⟨c.h, l1⟩ : Cl) := ⟨hok.1, fun l hl => hok.2 l ((hm1 l).1 hl)⟩
       have ok2 : Cl.ok (⟨c.h, (l1 ++ [l1[0]])⟩ : Cl) := ⟨hok.1, fun l hl => hok.2 l ((hm2 l).1 hl)⟩
       have ok3 : Cl.ok (⟨c.h, (l1 ++ [m])⟩ : Cl) := ⟨hok.1, fun l hl => (List.mem_append.1 hl).elim (fun h => hok.2 l ((hm1 l).1 h)) (fun h => by rw [List.mem_singleton] at h; subst h; exact gm)⟩
       refine go_same (A := pt bD 28 [.int .u32 c.h.p, .slice CA c.h.a.length cc, .slice (some ⟨bo, 0, none⟩) c.b.length j1]) (B := pt bD 28 [.int .u32 c.h.p, .slice CA c.h.a.length cc, .slice (some ⟨bo, 0, none⟩) l1.length j1]) (by repeat constructor) (by rw [hll]) ?_
       refine go_draw ([]) ([pt bD 28 [.int .u32 c.h.p, .slice CA c.h.a.length cc, .slice (some ⟨bo, 0, none⟩) l1.length j1]]) [0] (SL.pre [(1, 1), (1, 3), (2, 0), (0, 2), (0, 4), (0, 5), (1, 6)] .nil) mixed rfl (by kernel_rfl) ?_
       refine go_pure1 Tk rfl rfl rfl ?_
       refine go_pure1 Tk rfl rfl rfl ?_
       refine go_val2a rfl (ldv Tk rfl rfl rfl) rfl ?_
       refine go_call (relOf A1 k1 a (by omega) (fun x hx => Nat.le_trans (hla x hx) (by omega))) rfl rfl (by rfl) rfl (by repeat constructor) (by repeat constructor) (fun _ v Ps' Os' hq => by obtain ⟨r3, rfl, rfl, rfl⟩ := hq; exact satS (by repeat constructor) (by repeat constructor)) ?_
       rintro _ _ _ ⟨r3, rfl, rfl, rfl⟩
       refine go_freeze_rel (b := r3) (by repeat constructor) ?_
       refine go_ent (relN (some ⟨r3, 0, none⟩) (fof a)) (fun hh hps => relN_some (hps (relP r3 (fof a)) (by repeat constructor))) ?_
       refine go_call (relOf A3 k3 d (by omega) (fun x hx => Nat.le_trans (hld x hx) (by omega))) rfl rfl (by rfl) rfl (by repeat constructor) (by repeat constructor) (fun _ v Ps' Os' hq => by obtain ⟨r4, rfl, rfl, rfl⟩ := hq; exact satS (by repeat constructor) (by repeat constructor)) ?_
       rintro _ _ _ ⟨r4, rfl, rfl, rfl⟩
       refine go_freeze_rel (b := r4) (by repeat constructor) ?_
       refine go_ent (relN (some ⟨r4, 0, none⟩) (fof d)) (fun hh hps => relN_some (hps (relP r4 (fof d)) (by repeat constructor))) ?_
       refine go_call (joinHeadsO (⟨c.h, l1⟩ : Cl) CA cc (some ⟨bo, 0, none⟩) j1 (some ⟨r3, 0, none⟩) (some ⟨r4, 0, none⟩) (fof a) (fof d) (js_small (F := a) (R := []) (N := d) (fun x hx => ⟨ga x hx, Nat.le_trans (hla x hx) (by omega)⟩) (by omega) (by simp) (by omega)) ok1 (Nat.le_trans (goL_len _ _ _ _ _ _ _) (pow_small (n := a.length + d.length) (by have h := hp1; have hp := hpos; simp only [posN] at h hp ⊢; omega) (Nat.le_trans (fof_len a) (by omega))))) rfl rfl (by rfl) rfl (by repeat constructor) (by repeat constructor) (fun h => nomatch h) ?_
       rintro _ _ _ ⟨D2, e2, rfl, rfl, rfl⟩
       refine go_freeze_dl (T := tFa) (A := D2) (xs := headsC (⟨c.h, l1⟩ : Cl) (fof a) [] (fof d) false) (by repeat constructor) ?_
       refine go_pure1 Tk rfl rfl rfl ?_
       refine go_nil ?_
       refine go_env [(1, _), (2, _), (5, _), (9, _), (11, _), (12, _), (16, _)] ⟨rfl, rfl, rfl, rfl, rfl, rfl, rfl, trivial⟩ ?_
       refine go_seq ?_
       refine go_toLy (l := l1) (by repeat constructor) (fun ys hym hyl => ?_)
       refine go_atLy (xs := ys) (by repeat constructor) 0 (List.getElem?_eq_getElem (by omega)) ?_
       refine go_same (A := pt bD 28 [.int .u32 c.h.p, .slice CA c.h.a.length cc, .slice (some ⟨bo, 0, none⟩) l1.length j1]) (B := pt bD 28 [.int .u32 c.h.p, .slice CA c.h.a.length cc, .slice (some ⟨bo, 0, none⟩) ys.length j1]) (by repeat constructor) (by rw [hyl]) ?_
       refine go_draw ([]) ([pt bD 28 [.int .u32 c.h.p, .slice CA c.h.a.length cc, .slice (some ⟨bo, 0, none⟩) ys.length j1], ol tLy 44 (some ⟨bo, 0, none⟩) j1 ys]) [1, 3, 5] (SL.pre [(1, 0), (1, 2), (2, 1), (2, 3), (1, 4), (2, 5), (0, 6), (0, 7), (1, 8), (0, 9)] .nil) mixed rfl (by kernel_rfl) ?_
       refine go_pure1 Tk rfl rfl rfl ?_
       refine go_pure1 Tk rfl rfl rfl ?_
       refine go_val2a rfl (ldv Tk rfl rfl rfl) rfl ?_
       refine go_val2a rfl (ldv Tk rfl rfl rfl) rfl ?_
       refine go_val1 rfl (idx_val Tk rfl rfl rfl rfl rfl (by omega)) rfl ?_
       refine go_val2a rfl (load_val Tk rfl rfl rfl (at_olp fcLy fcLy_eq (xs := ys) (by repeat constructor) (0) (List.getElem?_eq_getElem (by omega)) rfl rfl) rfl) rfl ?_
       refine go_bslice Tk rfl rfl rfl rfl rfl rfl rfl rfl (fun _ _ => satA) ?_
       intro b1
       refine go_append1 (T := tLy) (xs := ys) Tk (ys[0]) rfl rfl rfl rfl rfl rfl rfl rfl rfl (by repeat constructor) (by repeat constructor) rfl (ent_Ly (by repeat constructor)) (by omega) (by first | exact (fun _ _ _ => satA) | exact (fun h => nomatch h) | exact (fun h => nomatch (Eq.symm h).trans (show _ = false by kernel_rfl))) ?_
       intro B2 j2
       refine go_pure1 Tk rfl rfl rfl ?_
       refine go_store Tk rfl rfl rfl rfl rfl rfl (by repeat constructor) rfl rfl (by rfl) (fun h => nomatch h) ?_
       refine go_nil ?_
       refine go_ofLy (xs := ys ++ [ys[0]]) (by repeat constructor) ?_
       have hy2 : (ys ++ [ys[0]]).map (fun x : Ly => x.l) = (l1 ++ [l1[0]]) := by rw [List.map_append, hym]; subst hym; simp
       rw [hy2]
       refine go_same (A := pt bD 28 [.int .u32 c.h.p, .slice CA c.h.a.length cc, .slice B2 (ys ++ [ys[0]]).length j2]) (B := pt bD 28 [.int .u32 c.h.p, .slice CA c.h.a.length cc, .slice B2 (l1 ++ [l1[0]]).length j2]) (by repeat constructor) (by rw [← hy2, List.length_map]) ?_
       refine go_env [(1, _), (2, _), (5, _), (9, _), (11, _), (12, _), (16, _)] ⟨rfl, rfl, rfl, rfl, rfl, rfl, rfl, trivial⟩ ?_
       refine go_seq ?_
       refine go_draw ([]) ([pt bD 28 [.int .u32 c.h.p, .slice CA c.h.a.length cc, .slice B2 (l1 ++ [l1[0]]).length j2]]) [0] (SL.pre [(1, 1), (1, 3), (2, 0), (0, 2), (0, 4), (0, 5), (1, 6)] .nil) mixed rfl (by kernel_rfl) ?_
       refine go_pure1 Tk rfl rfl rfl ?_
       refine go_pure1 Tk rfl rfl rfl ?_
       refine go_val2a rfl (ldv Tk rfl rfl rfl) rfl ?_
       refine go_call (relOf A1 k1 a (by omega) (fun x hx => Nat.le_trans (hla x hx) (by omega))) rfl rfl (by rfl) rfl (by repeat constructor) (by repeat constructor) (fun _ v Ps' Os' hq => by obtain ⟨r5, rfl, rfl, rfl⟩ := hq; exact satS (by repeat constructor) (by repeat constructor)) ?_
       rintro _ _ _ ⟨r5, rfl, rfl, rfl⟩
       refine go_freeze_rel (b := r5) (by repeat constructor) ?_
       refine go_ent (relN (some ⟨r5, 0, none⟩) (fof a)) (fun hh hps => relN_some (hps (relP r5 (fof a)) (by repeat constructor))) ?_
       refine go_call (relOf A3 k3 d (by omega) (fun x hx => Nat.le_trans (hld x hx) (by omega))) rfl rfl (by rfl) rfl (by repeat constructor) (by repeat constructor) (fun _ v Ps' Os' hq => by obtain ⟨r6, rfl, rfl, rfl⟩ := hq; exact satS (by repeat constructor) (by repeat constructor)) ?_
       rintro _ _ _ ⟨r6, rfl, rfl, rfl⟩
       refine go_freeze_rel (b := r6) (by repeat constructor) ?_
       refine go_ent (relN (some ⟨r6, 0, none⟩) (fof d)) (fun hh hps => relN_some (hps (relP r6 (fof d)) (by repeat constructor))) ?_
       refine go_call (joinHeadsO (⟨c.h, (l1 ++ [l1[0]])⟩ : Cl) CA cc B2 j2 (some ⟨r5, 0, none⟩) (some ⟨r6, 0, none⟩) (fof a) (fof d) (js_small (F := a) (R := []) (N := d) (fun x hx => ⟨ga x hx, Nat.le_trans (hla x hx) (by omega)⟩) (by omega) (by simp) (by omega)) ok2 (Nat.le_trans (goL_len _ _ _ _ _ _ _) (pow_small (n := a.length + d.length) (by have h := hp2; have hp := hpos; simp only [posN] at h hp ⊢; omega) (Nat.le_trans (fof_len a) (by omega))))) rfl rfl (by rfl) rfl (by repeat constructor) (by repeat constructor) (fun h => nomatch h) ?_
       rintro _ _ _ ⟨D3, e3, rfl, rfl, rfl⟩
       refine go_freeze_dl (T := tFa) (A := D3) (xs := headsC (⟨c.h, (l1 ++ [l1[0]])⟩ : Cl) (fof a) [] (fof d) false) (by repeat constructor) ?_
       refine go_pure1 Tk rfl rfl rfl ?_
       refine go_nil ?_
       refine go_env [(1, _), (2, _), (5, _), (9, _), (11, _), (12, _), (16, _), (17, _)] ⟨rfl, rfl, rfl, rfl, rfl, rfl, rfl, rfl, trivial⟩ ?_
       refine go_seq ?_
       refine go_seq ?_
       refine go_region rfl ?_
       refine go_pure0 Tk rfl rfl rfl ?_
       refine go_pure0 Tk rfl rfl rfl ?_
       refine go_call (ref13Same D1 e1 (headsC c (fof a) [] (fof d) false) D2 e2 (headsC (⟨c.h, l1⟩ : Cl) (fof a) [] (fof d) false)) rfl rfl (by rfl) rfl (by repeat constructor) (by repeat constructor) (fun h => nomatch h) ?_
       rintro _ _ _ ⟨rfl, rfl, rfl⟩
       refine go_pure0 Tk rfl rfl rfl ?_
       refine go_re 131 (.bool false) (by show some (Value.bool _) = _; rw [decide_eq_true (heads_same (d := (⟨c.h, l1⟩ : Cl)) hok rfl (by omega) (by show l1.length ≤ 8; omega) hm1 _ _ _ _).symm]; rfl) ?_
       refine go_pure0 Tk rfl rfl rfl ?_
       refine go_pure0 Tk rfl rfl rfl ?_
       refine go_pure0 Tk rfl rfl rfl ?_
       refine go_call (ref13Same D1 e1 (headsC c (fof a) [] (fof d) false) D3 e3 (headsC (⟨c.h, (l1 ++ [l1[0]])⟩ : Cl) (fof a) [] (fof d) false)) rfl rfl (by rfl) rfl (by repeat constructor) (by repeat constructor) (fun h => nomatch h) ?_
       rintro _ _ _ ⟨rfl, rfl, rfl⟩
       refine go_pure0 Tk rfl rfl rfl ?_
       refine go_re 136 (.bool false) (by show some (Value.bool _) = _; rw [decide_eq_true (heads_same (d := (⟨c.h, (l1 ++ [l1[0]])⟩ : Cl)) hok rfl (by omega) (by show (l1 ++ [_]).length ≤ 8; simp only [List.length_append, List.length_singleton]; omega) hm2 _ _ _ _).symm]; rfl) ?_
       refine go_pure0 Tk rfl rfl rfl ?_
       refine go_nil ?_
       refine go_env [(1, _), (2, _), (5, _), (9, _), (11, _), (12, _), (137, _)] ⟨rfl, rfl, rfl, rfl, rfl, rfl, rfl, trivial⟩ ?_
       refine go_cond_f rfl ?_
       refine go_skip ?_
       refine go_seq ?_
       refine go_ol_addr (xs := (l1 ++ [l1[0]])) (by repeat constructor) (by simp) (fun bq hA => ?_); subst hA
       refine go_toLy (l := (l1 ++ [l1[0]])) (by repeat constructor) (fun zs hzm hzl => ?_)
       have hzl' : zs.length = l1.length + 1 := by rw [hzl]; simp
       refine go_same (A := pt bD 28 [.int .u32 c.h.p, .slice CA c.h.a.length cc, .slice (some ⟨bq, 0, none⟩) (l1 ++ [l1[0]]).length j2]) (B := pt bD 28 [.int .u32 c.h.p, .slice CA c.h.a.length cc, .slice (some ⟨bq, 0, none⟩) zs.length j2]) (by repeat constructor) (by rw [hzl]) ?_
       refine go_region rfl ?_
       refine go_pure0 Tk rfl rfl rfl ?_
       refine go_val0 rfl (ldv Tk rfl rfl rfl) rfl ?_
       refine go_pure0 Tk rfl rfl rfl ?_
       refine go_val0 rfl (ldv Tk rfl rfl rfl) rfl ?_
       refine go_pure0 Tk rfl rfl rfl ?_
       refine go_pure0 Tk rfl rfl rfl ?_
       refine go_i64 143 rfl (by omega) (by omega) ?_
       refine go_re 143 (.int .i64 (l1.length : Int)) (by show some (Value.int _ _) = _; rw [hzl']; congr 2; omega) ?_
       refine go_val0 rfl (ldv Tk rfl rfl rfl) rfl ?_
       refine go_val0 rfl (idx_val Tk rfl rfl rfl rfl rfl (by omega)) rfl ?_
       refine go_store_el (T := tLy) (xs := zs) (j := l1.length) Tk (⟨m, MA, mc⟩ : Ly) rfl rfl rfl rfl rfl rfl (by repeat constructor) (by omega) rfl rfl (ent_Ly (x := ⟨m, MA, mc⟩) (by repeat constructor)) (by first | exact (fun _ => satS (by repeat constructor) (by repeat constructor)) | exact (fun h => nomatch h) | exact (fun h => nomatch (Eq.symm h).trans (show _ = false by kernel_rfl))) ?_
       refine go_nil ?_
       refine go_ofLy (xs := zs.set l1.length ⟨m, MA, mc⟩) (by repeat constructor) ?_
       have hz2 : (zs.set l1.length ⟨m, MA, mc⟩).map (fun x : Ly => x.l) = (l1 ++ [m]) := by rw [List.map_set, hzm, List.set_append_right _ _ (Nat.le_refl _), Nat.sub_self]; rfl
       rw [hz2]
       refine go_same (A := pt bD 28 [.int .u32 c.h.p, .slice CA c.h.a.length cc, .slice (some ⟨bq, 0, none⟩) zs.length j2]) (B := pt bD 28 [.int .u32 c.h.p, .slice CA c.h.a.length cc, .slice (some ⟨bq, 0, none⟩) (l1 ++ [m]).length j2]) (by repeat constructor) (by rw [hzl']; simp) ?_
       refine go_freeze_ol (xs := (l1 ++ [m])) (by repeat constructor) ?_
       refine go_freeze_pt (b := bD) (by repeat constructor) ?_
       refine go_env [(1, _), (2, _), (5, _), (11, _), (12, _)] ⟨rfl, rfl, rfl, rfl, rfl, trivial⟩ ?_
       refine go_seq ?_
       refine go_draw ([cl bD 0 [.int .u32 c.h.p, .slice CA c.h.a.length cc, .slice (some ⟨bq, 0, none⟩) (l1 ++ [m]).length j2]]) ([]) [0] (SL.pre [(1, 1), (1, 3), (2, 0), (0, 2), (0, 4), (0, 5), (1, 6)] .nil) mixed rfl (by kernel_rfl) ?_
       refine go_pure1 Tk rfl rfl rfl ?_
       refine go_pure1 Tk rfl rfl rfl ?_
       refine go_val2a rfl (ldv Tk rfl rfl rfl) rfl ?_
       refine go_call (relOf A1 k1 a (by omega) (fun x hx => Nat.le_trans (hla x hx) (by omega))) rfl rfl (by rfl) rfl (by repeat constructor) (by repeat constructor) (fun _ v Ps' Os' hq => by obtain ⟨r7, rfl, rfl, rfl⟩ := hq; exact satS (by repeat constructor) (by repeat constructor)) ?_
       rintro _ _ _ ⟨r7, rfl, rfl, rfl⟩
       refine go_freeze_rel (b := r7) (by repeat constructor) ?_
       refine go_ent (relN (some ⟨r7, 0, none⟩) (fof a)) (fun hh hps => relN_some (hps (relP r7 (fof a)) (by repeat constructor))) ?_
       refine go_call (relOf A3 k3 d (by omega) (fun x hx => Nat.le_trans (hld x hx) (by omega))) rfl rfl (by rfl) rfl (by repeat constructor) (by repeat constructor) (fun _ v Ps' Os' hq => by obtain ⟨r8, rfl, rfl, rfl⟩ := hq; exact satS (by repeat constructor) (by repeat constructor)) ?_
       rintro _ _ _ ⟨r8, rfl, rfl, rfl⟩
       refine go_freeze_rel (b := r8) (by repeat constructor) ?_
       refine go_ent (relN (some ⟨r8, 0, none⟩) (fof d)) (fun hh hps => relN_some (hps (relP r8 (fof d)) (by repeat constructor))) ?_
       refine go_call (joinHeadsAll (⟨c.h, (l1 ++ [m])⟩ : Cl) CA cc (some ⟨bq, 0, none⟩) j2 (some ⟨r7, 0, none⟩) (some ⟨r8, 0, none⟩) (fof a) (fof d) (js_small (F := a) (R := []) (N := d) (fun x hx => ⟨ga x hx, Nat.le_trans (hla x hx) (by omega)⟩) (by omega) (by simp) (by omega)) ok3 (Nat.le_trans (goL_len _ _ _ _ _ _ _) (pow_small (n := a.length + d.length) (by have h := hp3; have hp := hpos; simp only [posN] at h hp ⊢; omega) (Nat.le_trans (fof_len a) (by omega))))) rfl rfl (by rfl) rfl (by repeat constructor) (by repeat constructor) (fun h => nomatch h) ?_
       rintro _ _ _ ⟨D4, e4, rfl, rfl, rfl⟩
       refine go_freeze_dl (T := tFa) (A := D4) (xs := headsC (⟨c.h, (l1 ++ [m])⟩ : Cl) (fof a) [] (fof d) false) (by repeat constructor) ?_
       refine go_len (xs := headsC (⟨c.h, (l1 ++ [m])⟩ : Cl) (fof a) [] (fof d) false) (by repeat constructor) (fun l9 m9 => ?_)
       have n1 : (headsC c (fof a) [] (fof d) false).length ≤ 50000000 := headsC_len (Nat.le_trans (goL_len _ _ _ _ _ _ _) (pow_small (n := a.length + d.length) (by have h : posN c.b = posN c.b := rfl; have hp := hpos; simp only [posN] at h hp ⊢; omega) (Nat.le_trans (fof_len a) (by omega))))
       refine go_pure1 Tk rfl rfl rfl ?_
       refine go_nil ?_
       refine go_env [(1, _), (5, _), (11, _), (18, _)] ⟨rfl, rfl, rfl, rfl, trivial⟩ ?_
       refine go_seq ?_
       refine go_seq ?_
       refine go_region rfl ?_
       refine go_pure0 Tk rfl rfl rfl ?_
       refine go_nil ?_
       refine go_env [(1, _), (5, _), (11, _), (18, _), (19, _)] ⟨rfl, rfl, rfl, rfl, rfl, trivial⟩ ?_
       refine go_block ?_
       refine go_loop' (X := Nat) (fun k => [(19, .int .i64 (k : Int))]) [(1, _), (5, _), (11, _), (18, _)] (fun _ => []) (fun k => k ≤ (headsC (⟨c.h, (l1 ++ [m])⟩ : Cl) (fof a) [] (fof d) false).length) (fun k => (headsC (⟨c.h, (l1 ++ [m])⟩ : Cl) (fof a) [] (fof d) false).length - k) (0) ⟨rfl, rfl, rfl, rfl, rfl, trivial⟩ (by repeat constructor) (by omega) ?_
       intro k hk
       refine go_seq ?_
       refine go_seq ?_
       refine go_region rfl ?_
       refine go_pure0 Tk rfl rfl rfl ?_
       refine go_pure0 Tk rfl rfl rfl ?_
       refine go_pure0 Tk rfl rfl rfl ?_
       refine go_pure0 Tk rfl rfl rfl ?_
       refine go_nil ?_
       refine go_env [(1, _), (5, _), (11, _), (18, _), (19, _), (155, _)] ⟨rfl, rfl, rfl, rfl, rfl, rfl, trivial⟩ ?_
       refine go_condD rfl ?_ ?_
       ·intro hq2
        refine go_skip ?_
        refine go_seq ?_
        refine go_block ?_
        refine go_seq ?_
        refine go_elem_fa (xs := headsC (⟨c.h, (l1 ++ [m])⟩ : Cl) (fof a) [] (fof d) false) (by repeat constructor) (k) (List.getElem?_eq_getElem (by omega)) (fun b9 o9 A9 c9 hA => ?_); cases hA
        refine go_region rfl ?_
        refine go_pure0 Tk rfl rfl rfl ?_
        refine go_pure0 Tk rfl rfl rfl ?_
        refine go_pure0 Tk rfl rfl rfl ?_
        refine go_val0 rfl (idx_val Tk rfl rfl rfl rfl rfl (by omega)) rfl ?_
        refine go_val0 rfl (ldv Tk rfl rfl rfl) rfl ?_
        refine go_call (ref13Has D1 e1 (headsC c (fof a) [] (fof d) false) (headsC (⟨c.h, (l1 ++ [m])⟩ : Cl) (fof a) [] (fof d) false)[k] A9 c9) rfl rfl (by rfl) rfl (by repeat constructor) (by repeat constructor) (fun h => nomatch h) ?_
        rintro _ _ _ ⟨rfl, rfl, rfl⟩
        refine go_pure0 Tk rfl rfl rfl ?_
        refine go_pure0 Tk rfl rfl rfl ?_
        refine go_known 165 rfl ?_ ?_
        ·intro g6
         (try simp only [decide_eq_true_eq, decide_eq_false_iff_not, Bool.not_eq_true', Bool.not_eq_false', Bool.not_eq_eq_eq_not, Bool.not_true, Bool.not_false, Int.not_lt, Int.not_le, beq_iff_eq, beq_eq_false_iff_ne, ne_eq] at g6)
         refine go_pure0 Tk rfl rfl rfl ?_
         refine go_pure0 Tk rfl rfl rfl ?_
         refine go_pure0 Tk rfl rfl rfl ?_
         refine go_pure0 Tk rfl rfl rfl ?_
         refine go_pure0 Tk rfl rfl rfl ?_
         refine go_i64 170 rfl (by omega) (by omega) ?_
         refine go_pure0 Tk rfl rfl rfl ?_
         refine go_pure0 Tk rfl rfl rfl ?_
         refine go_pure0 Tk rfl rfl rfl ?_
         refine go_known 173 rfl ?_ ?_
         ·intro g7
          (try simp only [decide_eq_true_eq, decide_eq_false_iff_not, Bool.not_eq_true', Bool.not_eq_false', Bool.not_eq_eq_eq_not, Bool.not_true, Bool.not_false, Int.not_lt, Int.not_le, beq_iff_eq, beq_eq_false_iff_ne, ne_eq] at g7)
          refine go_val0 rfl (ldv Tk rfl rfl rfl) rfl ?_
          refine go_call (law13safe c CA cc CB cd) rfl rfl (by rfl) rfl (by repeat constructor) (by repeat constructor) (fun h => nomatch h) ?_
          rintro _ _ _ ⟨rfl, rfl, rfl⟩
          refine go_re 175 (.bool false) (by show some (Value.bool _) = _; rw [show heldC c = false from Bool.eq_false_iff.2 (fun e => g6 (heads_more hok ok3 rfl (by omega) (fun l hl => List.mem_append_left _ ((hm1 l).2 hl)) (heldC_iff.1 e) (List.getElem_mem (by omega))))]) ?_
          refine go_pure0 Tk rfl rfl rfl ?_
          refine go_nil ?_
          refine go_env [(1, _), (5, _), (11, _), (18, _), (19, _), (166, _), (167, _), (168, _), (169, _), (170, _), (171, _), (174, _), (175, _), (176, _)] ⟨rfl, rfl, rfl, rfl, rfl, rfl, rfl, rfl, rfl, rfl, rfl, rfl, rfl, rfl, trivial⟩ ?_
          refine go_cond_f rfl ?_
          refine go_skip ?_
          refine go_blk ?_
          refine go_region rfl ?_
          refine go_pure0 Tk rfl rfl rfl ?_
          refine go_pure0 Tk rfl rfl rfl ?_
          refine go_pure0 Tk rfl rfl rfl ?_
          refine go_nil ?_
          refine go_i64 19 rfl (by omega) (by omega) ?_
          refine go_back (k + 1) ⟨rfl, rfl, rfl, rfl, rfl, trivial⟩ (by repeat constructor) (by repeat constructor) (by omega) (by omega)
         ·intro g7
          (try simp only [decide_eq_true_eq, decide_eq_false_iff_not, Bool.not_eq_true', Bool.not_eq_false', Bool.not_eq_eq_eq_not, Bool.not_true, Bool.not_false, Int.not_lt, Int.not_le, beq_iff_eq, beq_eq_false_iff_ne, ne_eq] at g7)
          refine go_skip0 rfl rfl ?_
          refine go_skip0 rfl rfl ?_
          refine go_pure0 Tk rfl rfl rfl ?_
          refine go_nil ?_
          refine go_env [(1, _), (5, _), (11, _), (18, _), (19, _), (166, _), (167, _), (168, _), (169, _), (170, _), (171, _), (174, _), (175, _), (176, _)] ⟨rfl, rfl, rfl, rfl, rfl, rfl, rfl, rfl, rfl, rfl, rfl, rfl, rfl, rfl, trivial⟩ ?_
          refine go_cond_f rfl ?_
          refine go_skip ?_
          refine go_blk ?_
          refine go_region rfl ?_
          refine go_pure0 Tk rfl rfl rfl ?_
          refine go_pure0 Tk rfl rfl rfl ?_
          refine go_pure0 Tk rfl rfl rfl ?_
          refine go_nil ?_
          refine go_i64 19 rfl (by omega) (by omega) ?_
          refine go_back (k + 1) ⟨rfl, rfl, rfl, rfl, rfl, trivial⟩ (by repeat constructor) (by repeat constructor) (by omega) (by omega)
        ·intro g6
         (try simp only [decide_eq_true_eq, decide_eq_false_iff_not, Bool.not_eq_true', Bool.not_eq_false', Bool.not_eq_eq_eq_not, Bool.not_true, Bool.not_false, Int.not_lt, Int.not_le, beq_iff_eq, beq_eq_false_iff_ne, ne_eq] at g6)
         refine go_skip0 rfl rfl ?_
         refine go_skip0 rfl rfl ?_
         refine go_skip0 rfl rfl ?_
         refine go_skip0 rfl rfl ?_
         refine go_skip0 rfl rfl ?_
         refine go_skip0 rfl rfl ?_
         refine go_pure0 Tk rfl rfl rfl ?_
         refine go_pure0 Tk rfl rfl rfl ?_
         refine go_skip0 rfl rfl ?_
         refine go_skip0 rfl rfl ?_
         refine go_pure0 Tk rfl rfl rfl ?_
         refine go_nil ?_
         refine go_env [(1, _), (5, _), (11, _), (18, _), (19, _), (166, _), (167, _), (168, _), (169, _), (170, _), (171, _), (174, _), (175, _), (176, _)] ⟨rfl, rfl, rfl, rfl, rfl, rfl, rfl, rfl, rfl, rfl, rfl, rfl, rfl, rfl, trivial⟩ ?_
         refine go_cond_f rfl ?_
         refine go_skip ?_
         refine go_blk ?_
         refine go_region rfl ?_
         refine go_pure0 Tk rfl rfl rfl ?_
         refine go_pure0 Tk rfl rfl rfl ?_
         refine go_pure0 Tk rfl rfl rfl ?_
         refine go_nil ?_
         refine go_i64 19 rfl (by omega) (by omega) ?_
         refine go_back (k + 1) ⟨rfl, rfl, rfl, rfl, rfl, trivial⟩ (by repeat constructor) (by repeat constructor) (by omega) (by omega)
       ·intro hq2
        refine go_exit rfl ?_
        refine go_seq ?_
        refine go_region rfl ?_
        refine go_call (lawWorks13) rfl rfl (by rfl) rfl (by repeat constructor) (by repeat constructor) (fun h => nomatch h) ?_
        rintro _ _ _ ⟨rfl, rfl, rfl⟩
        refine go_pure0 Tk rfl rfl rfl ?_
        refine go_nil ?_
        refine go_env [(10, _)] ⟨rfl, trivial⟩ ?_
        refine go_ret ⟨rfl, rfl⟩ _ _ (res1 (by rfl) (.tmp rfl)) ⟨rfl, rfl, rfl⟩ (by repeat constructor) (by repeat constructor)

end Go.Proofs.Ytkhddfknpegpmaa.SL
