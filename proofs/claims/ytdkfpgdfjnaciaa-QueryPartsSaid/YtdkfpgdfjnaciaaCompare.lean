/- Contracts of functions of the program (Compare): what each call comes to, for the laws' proofs. -/
import Derived.Test.YtdkfpgdfjnaciaaCmp
set_option linter.unusedVariables false
set_option linter.unusedSimpArgs false
namespace Go.Proofs.Ytdkfpgdfjnaciaa.SL
open Go 

set_option maxHeartbeats 2000000 in
set_option maxRecDepth 20000 in
theorem slicesCompare (A : Option Addr) (a : List Int) (c : Nat) (B : Option Addr) (b : List Int) (d : Nat) :
    Spec Try.prog 80 #[.slice A a.length c, .slice B b.length d] [sl tU A c a, sl tU B d b] [] (fun v Ps' Os' => v = .int .i64 (cmpL a b) ∧ Ps' = [] ∧ Os' = []) := by
  refine spec_of (fn := Try.f80) (args := [.slice A a.length c, .slice B b.length d]) 36 Try.func80 rfl (by kernel_rfl) Try.ntmps80 (Nat.le_of_ble_eq_true rfl) (fun w0 hp0 hf0 => ?_)
  refine go_seq ?_
  refine go_len (xs := a) (by repeat constructor) (fun l0 m0 => ?_)
  refine go_len (xs := b) (by repeat constructor) (fun l1 m1 => ?_)
  refine go_region rfl ?_
  refine go_pure0 Tk rfl rfl rfl ?_
  refine go_nil ?_
  refine go_env [(0, _), (1, _)] ⟨rfl, rfl, trivial⟩ ?_
  refine go_seq ?_
  refine go_seq ?_
  refine go_region rfl ?_
  refine go_pure0 Tk rfl rfl rfl ?_
  refine go_pure0 Tk rfl rfl rfl ?_
  refine go_pure0 Tk rfl rfl rfl ?_
  refine go_nil ?_
  refine go_env [(0, _), (1, _), (9, _), (10, _), (11, _)] ⟨rfl, rfl, rfl, rfl, rfl, trivial⟩ ?_
  refine go_block ?_
  refine go_loop' (X := Nat) (fun k => [(11, .int .i64 (k : Int))]) [(0, _), (1, _), (9, _), (10, _)] (fun _ => []) (fun k => k ≤ a.length ∧ k ≤ b.length ∧ a.take k = b.take k) (fun k => a.length - k) (0) ⟨rfl, rfl, rfl, rfl, rfl, trivial⟩ (by repeat constructor) ⟨by omega, by omega, rfl⟩ ?_
  intro k ⟨hk, hk2, hz⟩
  refine go_seq ?_
  refine go_region rfl ?_
  refine go_pure0 Tk rfl rfl rfl ?_
  refine go_nil ?_
  refine go_env [(0, _), (1, _), (9, _), (10, _), (11, _), (12, _)] ⟨rfl, rfl, rfl, rfl, rfl, rfl, trivial⟩ ?_
  refine go_seq ?_
  refine go_condD rfl ?_ ?_
  · intro c1
    refine go_skip ?_
    refine go_seq ?_
    refine go_block ?_
    refine go_seq ?_
    refine go_elem_int (xs := a) (by repeat constructor) (k) (List.getElem?_eq_getElem (by omega)) (fun b1 o1 hA => ?_); cases hA
    refine go_region rfl ?_
    refine go_pure0 Tk rfl rfl rfl ?_
    refine go_val0 rfl (idx_val Tk rfl rfl rfl rfl rfl (by omega)) rfl ?_
    refine go_val0 rfl (load_val Tk rfl rfl rfl (by first | exact at_pt (by repeat constructor) (by rfl) | exact at_cl 0 (by repeat constructor) (by rfl) | exact at_cl 1 (by repeat constructor) (by rfl) | exact at_cl 2 (by repeat constructor) (by rfl) | exact at_cl 3 (by repeat constructor) (by rfl) | exact at_cl 4 (by repeat constructor) (by rfl) | exact at_cl 5 (by repeat constructor) (by rfl) | exact at_cl 6 (by repeat constructor) (by rfl) | exact at_cl 7 (by repeat constructor) (by rfl)) (by rfl)) rfl ?_
    refine go_pure0 Tk rfl rfl rfl ?_
    refine go_pure0 Tk rfl rfl rfl ?_
    refine go_nil ?_
    refine go_env [(0, _), (1, _), (5, _), (6, _), (9, _), (10, _), (11, _)] ⟨rfl, rfl, rfl, rfl, rfl, rfl, rfl, trivial⟩ ?_
    refine go_seq ?_
    refine go_seq ?_
    refine go_region rfl ?_
    refine go_pure0 Tk rfl rfl rfl ?_
    refine go_pure0 Tk rfl rfl rfl ?_
    refine go_pure0 Tk rfl rfl rfl ?_
    refine go_pure0 Tk rfl rfl rfl ?_
    refine go_nil ?_
    refine go_env [(0, _), (1, _), (5, _), (6, _), (9, _), (10, _), (11, _), (19, _)] ⟨rfl, rfl, rfl, rfl, rfl, rfl, rfl, rfl, trivial⟩ ?_
    refine go_condD rfl ?_ ?_
    · intro c2
      refine go_seq ?_
      refine go_region rfl ?_
      refine go_pure0 Tk rfl rfl rfl ?_
      refine go_nil ?_
      refine go_env [(4, _)] ⟨rfl, trivial⟩ ?_
      refine go_ret ⟨rfl, rfl⟩ _ _ (fun a w hp ho hf hs => res1 (by rfl) (.tmp rfl) a w hp ho hf hs) ⟨congrArg (Value.int .i64) (cmp_r0 hz (by omega) (by omega) (by omega)), rfl, rfl⟩ (by repeat constructor) (by repeat constructor)
    · intro c2
      refine go_skip ?_
      refine go_seq ?_
      refine go_elem_int (xs := b) (by repeat constructor) (k) (List.getElem?_eq_getElem (by omega)) (fun b2 o2 hA => ?_); cases hA
      refine go_region rfl ?_
      refine go_pure0 Tk rfl rfl rfl ?_
      refine go_pure0 Tk rfl rfl rfl ?_
      refine go_val0 rfl (idx_val Tk rfl rfl rfl rfl rfl (by omega)) rfl ?_
      refine go_val0 rfl (load_val Tk rfl rfl rfl (by first | exact at_pt (by repeat constructor) (by rfl) | exact at_cl 0 (by repeat constructor) (by rfl) | exact at_cl 1 (by repeat constructor) (by rfl) | exact at_cl 2 (by repeat constructor) (by rfl) | exact at_cl 3 (by repeat constructor) (by rfl) | exact at_cl 4 (by repeat constructor) (by rfl) | exact at_cl 5 (by repeat constructor) (by rfl) | exact at_cl 6 (by repeat constructor) (by rfl) | exact at_cl 7 (by repeat constructor) (by rfl)) (by rfl)) rfl ?_
      refine go_pure0 Tk rfl rfl rfl ?_
      refine go_nil ?_
      refine go_env [(0, _), (1, _), (6, _), (7, _), (9, _), (10, _), (11, _)] ⟨rfl, rfl, rfl, rfl, rfl, rfl, rfl, trivial⟩ ?_
      refine go_seq ?_
      refine go_region rfl ?_
      refine go_pure0 Tk rfl rfl rfl ?_
      refine go_pure0 Tk rfl rfl rfl ?_
      refine go_call (compare_u32 _ _) rfl rfl (by rfl) rfl (by repeat constructor) (by repeat constructor) (fun h => nomatch h) ?_
      rintro _ _ _ ⟨rfl, rfl, rfl⟩
      refine go_pure0 Tk rfl rfl rfl ?_
      refine go_nil ?_
      refine go_env [(0, _), (1, _), (8, _), (9, _), (10, _), (11, _)] ⟨rfl, rfl, rfl, rfl, rfl, rfl, trivial⟩ ?_
      refine go_seq ?_
      refine go_region rfl ?_
      refine go_pure0 Tk rfl rfl rfl ?_
      refine go_pure0 Tk rfl rfl rfl ?_
      refine go_nil ?_
      refine go_env [(0, _), (1, _), (8, _), (9, _), (10, _), (11, _), (28, _)] ⟨rfl, rfl, rfl, rfl, rfl, rfl, rfl, trivial⟩ ?_
      refine go_condN rfl ?_ ?_
      · intro c3
        refine go_seq ?_
        refine go_region rfl ?_
        refine go_pure0 Tk rfl rfl rfl ?_
        refine go_pure0 Tk rfl rfl rfl ?_
        refine go_nil ?_
        refine go_env [(4, _)] ⟨rfl, trivial⟩ ?_
        refine go_ret ⟨rfl, rfl⟩ _ _ (fun a w hp ho hf hs => res1 (by rfl) (.tmp rfl) a w hp ho hf hs) ⟨congrArg (Value.int .i64) (cmp_r1 hz (by omega) (by omega) c3), rfl, rfl⟩ (by repeat constructor) (by repeat constructor)
      · intro c3
        refine go_skip ?_
        refine go_blk ?_
        refine go_region rfl ?_
        refine go_pure0 Tk rfl rfl rfl ?_
        refine go_pure0 Tk rfl rfl rfl ?_
        refine go_nil ?_
        refine go_i64 11 rfl (by omega) (by omega) ?_
        refine go_back (k + 1) ⟨rfl, rfl, rfl, rfl, rfl, trivial⟩ (by repeat constructor) (by repeat constructor) (⟨by omega, by omega, take_next (by omega) (by omega) hz (cmp_eq c3)⟩) (by omega)
  · intro c1
    refine go_exit rfl ?_
    refine go_seq ?_
    refine go_seq ?_
    refine go_region rfl ?_
    refine go_pure0 Tk rfl rfl rfl ?_
    refine go_pure0 Tk rfl rfl rfl ?_
    refine go_pure0 Tk rfl rfl rfl ?_
    refine go_pure0 Tk rfl rfl rfl ?_
    refine go_pure0 Tk rfl rfl rfl ?_
    refine go_nil ?_
    refine go_env [(35, _)] ⟨rfl, trivial⟩ ?_
    refine go_condD rfl ?_ ?_
    · intro c4
      refine go_seq ?_
      refine go_region rfl ?_
      refine go_pure0 Tk rfl rfl rfl ?_
      refine go_nil ?_
      refine go_env [(4, _)] ⟨rfl, trivial⟩ ?_
      refine go_ret ⟨rfl, rfl⟩ _ _ (fun a w hp ho hf hs => res1 (by rfl) (.tmp rfl) a w hp ho hf hs) ⟨congrArg (Value.int .i64) (by rw [cmp_r2 hz (by omega) (by omega) (by omega), if_pos (by omega)]), rfl, rfl⟩ (by repeat constructor) (by repeat constructor)
    · intro c4
      refine go_skip ?_
      refine go_seq ?_
      refine go_region rfl ?_
      refine go_pure0 Tk rfl rfl rfl ?_
      refine go_nil ?_
      refine go_env [(4, _)] ⟨rfl, trivial⟩ ?_
      refine go_ret ⟨rfl, rfl⟩ _ _ (fun a w hp ho hf hs => res1 (by rfl) (.tmp rfl) a w hp ho hf hs) ⟨congrArg (Value.int .i64) (by rw [cmp_r2 hz (by omega) (by omega) (by omega), if_neg (by omega)]), rfl, rfl⟩ (by repeat constructor) (by repeat constructor)

set_option maxHeartbeats 2000000 in
set_option maxRecDepth 20000 in
theorem atomsCompare (p : Int) (A : Option Addr) (a : List Int) (c : Nat) (q : Int) (B : Option Addr) (b : List Int) (d : Nat) :
    Spec Try.prog 49 #[.agg #[.int .u32 p, .slice A a.length c], .agg #[.int .u32 q, .slice B b.length d]] [sl tU A c a, sl tU B d b] [] (fun v Ps' Os' => v = .int .i64 (cmpF p a q b) ∧ Ps' = [] ∧ Os' = []) := by
  refine spec_of (fn := Try.f49) (args := [.agg #[.int .u32 p, .slice A a.length c], .agg #[.int .u32 q, .slice B b.length d]]) 24 Try.func49 rfl (by kernel_rfl) Try.ntmps49 (Nat.le_of_ble_eq_true rfl) (fun w0 hp0 hf0 => ?_)
  refine go_seq ?_
  refine go_region rfl ?_
  refine go_box Tk rfl rfl rfl rfl (by rfl) rfl rfl (fun h => nomatch h) ?_
  intro b1
  refine go_box Tk rfl rfl rfl rfl (by rfl) rfl rfl (fun h => nomatch h) ?_
  intro b2
  refine go_pure0 Tk rfl rfl rfl ?_
  refine go_nil ?_
  refine go_env [(2, _), (3, _)] ⟨rfl, rfl, trivial⟩ ?_
  refine go_seq ?_
  refine go_draw'  [1, 3, 6, 9, 13, 15] (SL.pre [(1, 0), (1, 2), (1, 5), (1, 8), (1, 12), (1, 14), (2, 1), (2, 3), (2, 6), (1, 7), (2, 9), (1, 10), (2, 13), (2, 15), (0, 4), (0, 11), (0, 16), (0, 17), (0, 18), (1, 19)] .nil) mixed rfl (by kernel_rfl) ?_
  refine go_pure1 Tk rfl rfl rfl ?_
  refine go_pure1 Tk rfl rfl rfl ?_
  refine go_pure1 Tk rfl rfl rfl ?_
  refine go_pure1 Tk rfl rfl rfl ?_
  refine go_pure1 Tk rfl rfl rfl ?_
  refine go_pure1 Tk rfl rfl rfl ?_
  refine go_val2 rfl (load_val Tk rfl rfl rfl (by first | exact at_pt (by repeat constructor) (by rfl) | exact at_cl 0 (by repeat constructor) (by rfl) | exact at_cl 1 (by repeat constructor) (by rfl) | exact at_cl 2 (by repeat constructor) (by rfl) | exact at_cl 3 (by repeat constructor) (by rfl) | exact at_cl 4 (by repeat constructor) (by rfl) | exact at_cl 5 (by repeat constructor) (by rfl) | exact at_cl 6 (by repeat constructor) (by rfl) | exact at_cl 7 (by repeat constructor) (by rfl)) (by rfl)) (by repeat constructor) (by repeat constructor) rfl ?_
  refine go_val2 rfl (load_val Tk rfl rfl rfl (by first | exact at_pt (by repeat constructor) (by rfl) | exact at_cl 0 (by repeat constructor) (by rfl) | exact at_cl 1 (by repeat constructor) (by rfl) | exact at_cl 2 (by repeat constructor) (by rfl) | exact at_cl 3 (by repeat constructor) (by rfl) | exact at_cl 4 (by repeat constructor) (by rfl) | exact at_cl 5 (by repeat constructor) (by rfl) | exact at_cl 6 (by repeat constructor) (by rfl) | exact at_cl 7 (by repeat constructor) (by rfl)) (by rfl)) (by repeat constructor) (by repeat constructor) rfl ?_
  refine go_val2 rfl (load_val Tk rfl rfl rfl (by first | exact at_pt (by repeat constructor) (by rfl) | exact at_cl 0 (by repeat constructor) (by rfl) | exact at_cl 1 (by repeat constructor) (by rfl) | exact at_cl 2 (by repeat constructor) (by rfl) | exact at_cl 3 (by repeat constructor) (by rfl) | exact at_cl 4 (by repeat constructor) (by rfl) | exact at_cl 5 (by repeat constructor) (by rfl) | exact at_cl 6 (by repeat constructor) (by rfl) | exact at_cl 7 (by repeat constructor) (by rfl)) (by rfl)) (by repeat constructor) (by repeat constructor) rfl ?_
  refine go_pure1 Tk rfl rfl rfl ?_
  refine go_val2 rfl (load_val Tk rfl rfl rfl (by first | exact at_pt (by repeat constructor) (by rfl) | exact at_cl 0 (by repeat constructor) (by rfl) | exact at_cl 1 (by repeat constructor) (by rfl) | exact at_cl 2 (by repeat constructor) (by rfl) | exact at_cl 3 (by repeat constructor) (by rfl) | exact at_cl 4 (by repeat constructor) (by rfl) | exact at_cl 5 (by repeat constructor) (by rfl) | exact at_cl 6 (by repeat constructor) (by rfl) | exact at_cl 7 (by repeat constructor) (by rfl)) (by rfl)) (by repeat constructor) (by repeat constructor) rfl ?_
  refine go_pure1 Tk rfl rfl rfl ?_
  refine go_val2 rfl (load_val Tk rfl rfl rfl (by first | exact at_pt (by repeat constructor) (by rfl) | exact at_cl 0 (by repeat constructor) (by rfl) | exact at_cl 1 (by repeat constructor) (by rfl) | exact at_cl 2 (by repeat constructor) (by rfl) | exact at_cl 3 (by repeat constructor) (by rfl) | exact at_cl 4 (by repeat constructor) (by rfl) | exact at_cl 5 (by repeat constructor) (by rfl) | exact at_cl 6 (by repeat constructor) (by rfl) | exact at_cl 7 (by repeat constructor) (by rfl)) (by rfl)) (by repeat constructor) (by repeat constructor) rfl ?_
  refine go_val2 rfl (load_val Tk rfl rfl rfl (by first | exact at_pt (by repeat constructor) (by rfl) | exact at_cl 0 (by repeat constructor) (by rfl) | exact at_cl 1 (by repeat constructor) (by rfl) | exact at_cl 2 (by repeat constructor) (by rfl) | exact at_cl 3 (by repeat constructor) (by rfl) | exact at_cl 4 (by repeat constructor) (by rfl) | exact at_cl 5 (by repeat constructor) (by rfl) | exact at_cl 6 (by repeat constructor) (by rfl) | exact at_cl 7 (by repeat constructor) (by rfl)) (by rfl)) (by repeat constructor) (by repeat constructor) rfl ?_
  refine go_call (compare_u32 _ _) rfl rfl (by rfl) rfl (by repeat constructor) (by repeat constructor) (fun _ v Ps' Os' hq => by obtain ⟨rfl, rfl, rfl⟩ := hq; exact satS (by repeat constructor) (by repeat constructor)) ?_
  rintro _ _ _ ⟨rfl, rfl, rfl⟩
  refine go_call (compare_i64 _ _) rfl rfl (by rfl) rfl (by repeat constructor) (by repeat constructor) (fun _ v Ps' Os' hq => by obtain ⟨rfl, rfl, rfl⟩ := hq; exact satS (by repeat constructor) (by repeat constructor)) ?_
  rintro _ _ _ ⟨rfl, rfl, rfl⟩
  refine go_call (slicesCompare _ _ _ _ _ _) rfl rfl (by rfl) rfl (by repeat constructor) (by repeat constructor) (fun h => nomatch h) ?_
  rintro _ _ _ ⟨rfl, rfl, rfl⟩
  refine go_bslice Tk rfl rfl rfl rfl rfl rfl rfl rfl (fun h => nomatch h) ?_
  intro b3
  refine go_lit_int (kk := .i64) [_, _, _] (by repeat constructor) (by simp) ?_
  refine go_call (cmpOr _ _ [_, _, _]) rfl rfl (by rfl) rfl (by repeat constructor) (by repeat constructor) (fun h => nomatch h) ?_
  rintro _ _ _ ⟨rfl, rfl, rfl⟩
  refine go_pure1 Tk rfl rfl rfl ?_
  refine go_nil ?_
  refine go_env [(4, _)] ⟨rfl, trivial⟩ ?_
  refine go_ret ⟨rfl, rfl⟩ _ _ (fun a w hp ho hf hs => res1 (by rfl) (.tmp rfl) a w hp ho hf hs) ⟨congrArg (Value.int .i64) (cmp_all p q a b), rfl, rfl⟩ (by repeat constructor) (by repeat constructor)

set_option maxHeartbeats 2000000 in
set_option maxRecDepth 20000 in
theorem refCompare (p : Int) (A : Option Addr) (a : List Int) (c : Nat) (q : Int) (B : Option Addr) (b : List Int) (d : Nat) :
    Spec Try.prog 26 #[.agg #[.int .u32 p, .slice A a.length c], .agg #[.int .u32 q, .slice B b.length d]] [sl tU A c a, sl tU B d b] [] (fun v Ps' Os' => v = .int .i64 (cmpF p a q b) ∧ Ps' = [] ∧ Os' = []) := by
  refine spec_of (fn := Try.f26) (args := [.agg #[.int .u32 p, .slice A a.length c], .agg #[.int .u32 q, .slice B b.length d]]) 70 Try.func26 rfl (by kernel_rfl) Try.ntmps26 (Nat.le_of_ble_eq_true rfl) (fun w0 hp0 hf0 => ?_)
  refine go_seq ?_
  refine go_region rfl ?_
  refine go_box Tk rfl rfl rfl rfl (by rfl) rfl rfl (fun h => nomatch h) ?_
  intro b1
  refine go_box Tk rfl rfl rfl rfl (by rfl) rfl rfl (fun h => nomatch h) ?_
  intro b2
  refine go_pure0 Tk rfl rfl rfl ?_
  refine go_nil ?_
  refine go_env [(2, _), (3, _)] ⟨rfl, rfl, trivial⟩ ?_
  refine go_seq ?_
  refine go_seq ?_
  refine go_cut' (X := Bool) (fun x => [(26, .bool x)]) [(2, _), (3, _)] (fun x => x = decide (p < q ∨ (p = q ∧ a.length < b.length))) ⟨rfl, rfl, trivial⟩ ?_ ?_
  · skip
    refine go_region rfl ?_
    refine go_pure0 Tk rfl rfl rfl ?_
    refine go_val0 rfl (load_val Tk rfl rfl rfl (by first | exact at_pt (by repeat constructor) (by rfl) | exact at_cl 0 (by repeat constructor) (by rfl) | exact at_cl 1 (by repeat constructor) (by rfl) | exact at_cl 2 (by repeat constructor) (by rfl) | exact at_cl 3 (by repeat constructor) (by rfl) | exact at_cl 4 (by repeat constructor) (by rfl) | exact at_cl 5 (by repeat constructor) (by rfl) | exact at_cl 6 (by repeat constructor) (by rfl) | exact at_cl 7 (by repeat constructor) (by rfl)) (by rfl)) rfl ?_
    refine go_pure0 Tk rfl rfl rfl ?_
    refine go_val0 rfl (load_val Tk rfl rfl rfl (by first | exact at_pt (by repeat constructor) (by rfl) | exact at_cl 0 (by repeat constructor) (by rfl) | exact at_cl 1 (by repeat constructor) (by rfl) | exact at_cl 2 (by repeat constructor) (by rfl) | exact at_cl 3 (by repeat constructor) (by rfl) | exact at_cl 4 (by repeat constructor) (by rfl) | exact at_cl 5 (by repeat constructor) (by rfl) | exact at_cl 6 (by repeat constructor) (by rfl) | exact at_cl 7 (by repeat constructor) (by rfl)) (by rfl)) rfl ?_
    refine go_pure0 Tk rfl rfl rfl ?_
    refine go_pure0 Tk rfl rfl rfl ?_
    refine go_known 11 rfl ?_ ?_
    · intro g1
      (try simp only [decide_eq_true_eq, decide_eq_false_iff_not, Bool.not_eq_true', Bool.not_eq_false', Bool.not_eq_eq_eq_not, Bool.not_true, Bool.not_false, Int.not_lt, Int.not_le, beq_iff_eq, beq_eq_false_iff_ne, ne_eq] at g1)
      refine go_skip0 rfl rfl ?_
      refine go_skip0 rfl rfl ?_
      refine go_skip0 rfl rfl ?_
      refine go_skip0 rfl rfl ?_
      refine go_skip0 rfl rfl ?_
      refine go_skip0 rfl rfl ?_
      refine go_skip0 rfl rfl ?_
      refine go_skip0 rfl rfl ?_
      refine go_skip0 rfl rfl ?_
      refine go_skip0 rfl rfl ?_
      refine go_skip0 rfl rfl ?_
      refine go_skip0 rfl rfl ?_
      refine go_skip0 rfl rfl ?_
      refine go_skip0 rfl rfl ?_
      refine go_pure0 Tk rfl rfl rfl ?_
      refine go_nil ?_
      refine go_back _ ⟨rfl, rfl, rfl, trivial⟩ (by repeat constructor) (by repeat constructor) (by first | (rw [eq_comm, decide_eq_true_eq]; omega) | (rw [eq_comm, decide_eq_false_iff_not]; omega) | (rw [decide_eq_decide]; omega)) (by decide)
    · intro g1
      (try simp only [decide_eq_true_eq, decide_eq_false_iff_not, Bool.not_eq_true', Bool.not_eq_false', Bool.not_eq_eq_eq_not, Bool.not_true, Bool.not_false, Int.not_lt, Int.not_le, beq_iff_eq, beq_eq_false_iff_ne, ne_eq] at g1)
      refine go_pure0 Tk rfl rfl rfl ?_
      refine go_val0 rfl (load_val Tk rfl rfl rfl (by first | exact at_pt (by repeat constructor) (by rfl) | exact at_cl 0 (by repeat constructor) (by rfl) | exact at_cl 1 (by repeat constructor) (by rfl) | exact at_cl 2 (by repeat constructor) (by rfl) | exact at_cl 3 (by repeat constructor) (by rfl) | exact at_cl 4 (by repeat constructor) (by rfl) | exact at_cl 5 (by repeat constructor) (by rfl) | exact at_cl 6 (by repeat constructor) (by rfl) | exact at_cl 7 (by repeat constructor) (by rfl)) (by rfl)) rfl ?_
      refine go_pure0 Tk rfl rfl rfl ?_
      refine go_val0 rfl (load_val Tk rfl rfl rfl (by first | exact at_pt (by repeat constructor) (by rfl) | exact at_cl 0 (by repeat constructor) (by rfl) | exact at_cl 1 (by repeat constructor) (by rfl) | exact at_cl 2 (by repeat constructor) (by rfl) | exact at_cl 3 (by repeat constructor) (by rfl) | exact at_cl 4 (by repeat constructor) (by rfl) | exact at_cl 5 (by repeat constructor) (by rfl) | exact at_cl 6 (by repeat constructor) (by rfl) | exact at_cl 7 (by repeat constructor) (by rfl)) (by rfl)) rfl ?_
      refine go_pure0 Tk rfl rfl rfl ?_
      refine go_pure0 Tk rfl rfl rfl ?_
      refine go_known 17 rfl ?_ ?_
      · intro g2
        (try simp only [decide_eq_true_eq, decide_eq_false_iff_not, Bool.not_eq_true', Bool.not_eq_false', Bool.not_eq_eq_eq_not, Bool.not_true, Bool.not_false, Int.not_lt, Int.not_le, beq_iff_eq, beq_eq_false_iff_ne, ne_eq] at g2)
        refine go_pure0 Tk rfl rfl rfl ?_
        refine go_val0 rfl (load_val Tk rfl rfl rfl (by first | exact at_pt (by repeat constructor) (by rfl) | exact at_cl 0 (by repeat constructor) (by rfl) | exact at_cl 1 (by repeat constructor) (by rfl) | exact at_cl 2 (by repeat constructor) (by rfl) | exact at_cl 3 (by repeat constructor) (by rfl) | exact at_cl 4 (by repeat constructor) (by rfl) | exact at_cl 5 (by repeat constructor) (by rfl) | exact at_cl 6 (by repeat constructor) (by rfl) | exact at_cl 7 (by repeat constructor) (by rfl)) (by rfl)) rfl ?_
        refine go_pure0 Tk rfl rfl rfl ?_
        refine go_pure0 Tk rfl rfl rfl ?_
        refine go_val0 rfl (load_val Tk rfl rfl rfl (by first | exact at_pt (by repeat constructor) (by rfl) | exact at_cl 0 (by repeat constructor) (by rfl) | exact at_cl 1 (by repeat constructor) (by rfl) | exact at_cl 2 (by repeat constructor) (by rfl) | exact at_cl 3 (by repeat constructor) (by rfl) | exact at_cl 4 (by repeat constructor) (by rfl) | exact at_cl 5 (by repeat constructor) (by rfl) | exact at_cl 6 (by repeat constructor) (by rfl) | exact at_cl 7 (by repeat constructor) (by rfl)) (by rfl)) rfl ?_
        refine go_pure0 Tk rfl rfl rfl ?_
        refine go_pure0 Tk rfl rfl rfl ?_
        refine go_pure0 Tk rfl rfl rfl ?_
        refine go_pure0 Tk rfl rfl rfl ?_
        refine go_nil ?_
        refine go_back _ ⟨rfl, rfl, rfl, trivial⟩ (by repeat constructor) (by repeat constructor) (by first | (rw [eq_comm, decide_eq_true_eq]; omega) | (rw [eq_comm, decide_eq_false_iff_not]; omega) | (rw [decide_eq_decide]; omega)) (by decide)
      · intro g2
        (try simp only [decide_eq_true_eq, decide_eq_false_iff_not, Bool.not_eq_true', Bool.not_eq_false', Bool.not_eq_eq_eq_not, Bool.not_true, Bool.not_false, Int.not_lt, Int.not_le, beq_iff_eq, beq_eq_false_iff_ne, ne_eq] at g2)
        refine go_skip0 rfl rfl ?_
        refine go_skip0 rfl rfl ?_
        refine go_skip0 rfl rfl ?_
        refine go_skip0 rfl rfl ?_
        refine go_skip0 rfl rfl ?_
        refine go_skip0 rfl rfl ?_
        refine go_skip0 rfl rfl ?_
        refine go_pure0 Tk rfl rfl rfl ?_
        refine go_pure0 Tk rfl rfl rfl ?_
        refine go_nil ?_
        refine go_back _ ⟨rfl, rfl, rfl, trivial⟩ (by repeat constructor) (by repeat constructor) (by first | (rw [eq_comm, decide_eq_true_eq]; omega) | (rw [eq_comm, decide_eq_false_iff_not]; omega) | (rw [decide_eq_decide]; omega)) (by decide)
  intro x hx
  subst hx
  refine go_cond rfl ?_ ?_
  · intro c1
    (try simp only [decide_eq_true_eq, decide_eq_false_iff_not, Bool.not_eq_true', Bool.not_eq_false', Bool.not_eq_eq_eq_not, Bool.not_true, Bool.not_false, Int.not_lt, Int.not_le, beq_iff_eq, beq_eq_false_iff_ne, ne_eq] at c1)
    refine go_seq ?_
    refine go_region rfl ?_
    refine go_pure0 Tk rfl rfl rfl ?_
    refine go_nil ?_
    refine go_env [(4, _)] ⟨rfl, trivial⟩ ?_
    refine go_ret ⟨rfl, rfl⟩ _ _ (fun a w hp ho hf hs => res1 (by rfl) (.tmp rfl) a w hp ho hf hs) ⟨congrArg (Value.int .i64) ((cmpF_lt c1).symm), rfl, rfl⟩ (by repeat constructor) (by repeat constructor)
  · intro c1
    (try simp only [decide_eq_true_eq, decide_eq_false_iff_not, Bool.not_eq_true', Bool.not_eq_false', Bool.not_eq_eq_eq_not, Bool.not_true, Bool.not_false, Int.not_lt, Int.not_le, beq_iff_eq, beq_eq_false_iff_ne, ne_eq] at c1)
    refine go_skip ?_
    refine go_seq ?_
    refine go_seq ?_
    refine go_cut' (X := Bool) (fun x => [(40, .bool x)]) [(2, _), (3, _)] (fun x => x = decide (q < p ∨ b.length < a.length)) ⟨rfl, rfl, trivial⟩ ?_ ?_
    · skip
      refine go_region rfl ?_
      refine go_pure0 Tk rfl rfl rfl ?_
      refine go_val0 rfl (load_val Tk rfl rfl rfl (by first | exact at_pt (by repeat constructor) (by rfl) | exact at_cl 0 (by repeat constructor) (by rfl) | exact at_cl 1 (by repeat constructor) (by rfl) | exact at_cl 2 (by repeat constructor) (by rfl) | exact at_cl 3 (by repeat constructor) (by rfl) | exact at_cl 4 (by repeat constructor) (by rfl) | exact at_cl 5 (by repeat constructor) (by rfl) | exact at_cl 6 (by repeat constructor) (by rfl) | exact at_cl 7 (by repeat constructor) (by rfl)) (by rfl)) rfl ?_
      refine go_pure0 Tk rfl rfl rfl ?_
      refine go_val0 rfl (load_val Tk rfl rfl rfl (by first | exact at_pt (by repeat constructor) (by rfl) | exact at_cl 0 (by repeat constructor) (by rfl) | exact at_cl 1 (by repeat constructor) (by rfl) | exact at_cl 2 (by repeat constructor) (by rfl) | exact at_cl 3 (by repeat constructor) (by rfl) | exact at_cl 4 (by repeat constructor) (by rfl) | exact at_cl 5 (by repeat constructor) (by rfl) | exact at_cl 6 (by repeat constructor) (by rfl) | exact at_cl 7 (by repeat constructor) (by rfl)) (by rfl)) rfl ?_
      refine go_pure0 Tk rfl rfl rfl ?_
      refine go_pure0 Tk rfl rfl rfl ?_
      refine go_known 32 rfl ?_ ?_
      · intro g3
        (try simp only [decide_eq_true_eq, decide_eq_false_iff_not, Bool.not_eq_true', Bool.not_eq_false', Bool.not_eq_eq_eq_not, Bool.not_true, Bool.not_false, Int.not_lt, Int.not_le, beq_iff_eq, beq_eq_false_iff_ne, ne_eq] at g3)
        refine go_skip0 rfl rfl ?_
        refine go_skip0 rfl rfl ?_
        refine go_skip0 rfl rfl ?_
        refine go_skip0 rfl rfl ?_
        refine go_skip0 rfl rfl ?_
        refine go_skip0 rfl rfl ?_
        refine go_skip0 rfl rfl ?_
        refine go_pure0 Tk rfl rfl rfl ?_
        refine go_nil ?_
        refine go_back _ ⟨rfl, rfl, rfl, trivial⟩ (by repeat constructor) (by repeat constructor) (by first | (rw [eq_comm, decide_eq_true_eq]; omega) | (rw [eq_comm, decide_eq_false_iff_not]; omega) | (rw [decide_eq_decide]; omega)) (by decide)
      · intro g3
        (try simp only [decide_eq_true_eq, decide_eq_false_iff_not, Bool.not_eq_true', Bool.not_eq_false', Bool.not_eq_eq_eq_not, Bool.not_true, Bool.not_false, Int.not_lt, Int.not_le, beq_iff_eq, beq_eq_false_iff_ne, ne_eq] at g3)
        refine go_pure0 Tk rfl rfl rfl ?_
        refine go_val0 rfl (load_val Tk rfl rfl rfl (by first | exact at_pt (by repeat constructor) (by rfl) | exact at_cl 0 (by repeat constructor) (by rfl) | exact at_cl 1 (by repeat constructor) (by rfl) | exact at_cl 2 (by repeat constructor) (by rfl) | exact at_cl 3 (by repeat constructor) (by rfl) | exact at_cl 4 (by repeat constructor) (by rfl) | exact at_cl 5 (by repeat constructor) (by rfl) | exact at_cl 6 (by repeat constructor) (by rfl) | exact at_cl 7 (by repeat constructor) (by rfl)) (by rfl)) rfl ?_
        refine go_pure0 Tk rfl rfl rfl ?_
        refine go_pure0 Tk rfl rfl rfl ?_
        refine go_val0 rfl (load_val Tk rfl rfl rfl (by first | exact at_pt (by repeat constructor) (by rfl) | exact at_cl 0 (by repeat constructor) (by rfl) | exact at_cl 1 (by repeat constructor) (by rfl) | exact at_cl 2 (by repeat constructor) (by rfl) | exact at_cl 3 (by repeat constructor) (by rfl) | exact at_cl 4 (by repeat constructor) (by rfl) | exact at_cl 5 (by repeat constructor) (by rfl) | exact at_cl 6 (by repeat constructor) (by rfl) | exact at_cl 7 (by repeat constructor) (by rfl)) (by rfl)) rfl ?_
        refine go_pure0 Tk rfl rfl rfl ?_
        refine go_pure0 Tk rfl rfl rfl ?_
        refine go_pure0 Tk rfl rfl rfl ?_
        refine go_nil ?_
        refine go_back _ ⟨rfl, rfl, rfl, trivial⟩ (by repeat constructor) (by repeat constructor) (by first | (rw [eq_comm, decide_eq_true_eq]; omega) | (rw [eq_comm, decide_eq_false_iff_not]; omega) | (rw [decide_eq_decide]; omega)) (by decide)
    intro x hx
    subst hx
    refine go_cond rfl ?_ ?_
    · intro c2
      (try simp only [decide_eq_true_eq, decide_eq_false_iff_not, Bool.not_eq_true', Bool.not_eq_false', Bool.not_eq_eq_eq_not, Bool.not_true, Bool.not_false, Int.not_lt, Int.not_le, beq_iff_eq, beq_eq_false_iff_ne, ne_eq] at c2)
      refine go_seq ?_
      refine go_region rfl ?_
      refine go_pure0 Tk rfl rfl rfl ?_
      refine go_nil ?_
      refine go_env [(4, _)] ⟨rfl, trivial⟩ ?_
      refine go_ret ⟨rfl, rfl⟩ _ _ (fun a w hp ho hf hs => res1 (by rfl) (.tmp rfl) a w hp ho hf hs) ⟨congrArg (Value.int .i64) ((cmpF_gt c1 c2).symm), rfl, rfl⟩ (by repeat constructor) (by repeat constructor)
    · intro c2
      (try simp only [decide_eq_true_eq, decide_eq_false_iff_not, Bool.not_eq_true', Bool.not_eq_false', Bool.not_eq_eq_eq_not, Bool.not_true, Bool.not_false, Int.not_lt, Int.not_le, beq_iff_eq, beq_eq_false_iff_ne, ne_eq] at c2)
      refine go_skip ?_
      refine go_seq ?_
      refine go_seq ?_
      obtain ⟨e1, e2, e3⟩ := cmpF_eq c1 c2
      refine go_len (xs := a) (by repeat constructor) (fun l0 m0 => ?_)
      refine go_region rfl ?_
      refine go_pure0 Tk rfl rfl rfl ?_
      refine go_nil ?_
      refine go_env [(2, _), (3, _), (5, _)] ⟨rfl, rfl, rfl, trivial⟩ ?_
      refine go_block ?_
      refine go_loop' (X := Nat) (fun k => [(5, .int .i64 (k : Int))]) [(2, _), (3, _)] (fun _ => []) (fun k => k ≤ a.length ∧ a.take k = b.take k) (fun k => a.length - k) (0) ⟨rfl, rfl, rfl, trivial⟩ (by repeat constructor) ⟨by omega, rfl⟩ ?_
      intro k ⟨hk, hz⟩
      refine go_seq ?_
      refine go_seq ?_
      refine go_region rfl ?_
      refine go_pure0 Tk rfl rfl rfl ?_
      refine go_pure0 Tk rfl rfl rfl ?_
      refine go_val0 rfl (load_val Tk rfl rfl rfl (by first | exact at_pt (by repeat constructor) (by rfl) | exact at_cl 0 (by repeat constructor) (by rfl) | exact at_cl 1 (by repeat constructor) (by rfl) | exact at_cl 2 (by repeat constructor) (by rfl) | exact at_cl 3 (by repeat constructor) (by rfl) | exact at_cl 4 (by repeat constructor) (by rfl) | exact at_cl 5 (by repeat constructor) (by rfl) | exact at_cl 6 (by repeat constructor) (by rfl) | exact at_cl 7 (by repeat constructor) (by rfl)) (by rfl)) rfl ?_
      refine go_pure0 Tk rfl rfl rfl ?_
      refine go_pure0 Tk rfl rfl rfl ?_
      refine go_nil ?_
      refine go_env [(2, _), (3, _), (5, _), (45, _)] ⟨rfl, rfl, rfl, rfl, trivial⟩ ?_
      refine go_condD rfl ?_ ?_
      · intro c3
        refine go_skip ?_
        refine go_seq ?_
        refine go_block ?_
        refine go_seq ?_
        refine go_seq ?_
        refine go_elem_int (xs := a) (by repeat constructor) (k) (List.getElem?_eq_getElem (by omega)) (fun b3 o3 hA => ?_); cases hA
        refine go_elem_int (xs := b) (by repeat constructor) (k) (List.getElem?_eq_getElem (by omega)) (fun b4 o4 hA => ?_); cases hA
        refine go_draw'  [1, 4, 6, 9] (SL.pre [(1, 0), (1, 2), (1, 5), (1, 7), (2, 1), (1, 3), (2, 4), (2, 6), (1, 8), (2, 9), (1, 10)] .nil) mixed rfl (by kernel_rfl) ?_
        refine go_pure1 Tk rfl rfl rfl ?_
        refine go_pure1 Tk rfl rfl rfl ?_
        refine go_pure1 Tk rfl rfl rfl ?_
        refine go_pure1 Tk rfl rfl rfl ?_
        refine go_val2 rfl (load_val Tk rfl rfl rfl (by first | exact at_pt (by repeat constructor) (by rfl) | exact at_cl 0 (by repeat constructor) (by rfl) | exact at_cl 1 (by repeat constructor) (by rfl) | exact at_cl 2 (by repeat constructor) (by rfl) | exact at_cl 3 (by repeat constructor) (by rfl) | exact at_cl 4 (by repeat constructor) (by rfl) | exact at_cl 5 (by repeat constructor) (by rfl) | exact at_cl 6 (by repeat constructor) (by rfl) | exact at_cl 7 (by repeat constructor) (by rfl)) (by rfl)) (by repeat constructor) (by repeat constructor) rfl ?_
        refine go_val1 rfl (idx_val Tk rfl rfl rfl rfl rfl (by omega)) rfl ?_
        refine go_val2 rfl (load_val Tk rfl rfl rfl (by first | exact at_pt (by repeat constructor) (by rfl) | exact at_cl 0 (by repeat constructor) (by rfl) | exact at_cl 1 (by repeat constructor) (by rfl) | exact at_cl 2 (by repeat constructor) (by rfl) | exact at_cl 3 (by repeat constructor) (by rfl) | exact at_cl 4 (by repeat constructor) (by rfl) | exact at_cl 5 (by repeat constructor) (by rfl) | exact at_cl 6 (by repeat constructor) (by rfl) | exact at_cl 7 (by repeat constructor) (by rfl)) (by rfl)) (by repeat constructor) (by repeat constructor) rfl ?_
        refine go_val2 rfl (load_val Tk rfl rfl rfl (by first | exact at_pt (by repeat constructor) (by rfl) | exact at_cl 0 (by repeat constructor) (by rfl) | exact at_cl 1 (by repeat constructor) (by rfl) | exact at_cl 2 (by repeat constructor) (by rfl) | exact at_cl 3 (by repeat constructor) (by rfl) | exact at_cl 4 (by repeat constructor) (by rfl) | exact at_cl 5 (by repeat constructor) (by rfl) | exact at_cl 6 (by repeat constructor) (by rfl) | exact at_cl 7 (by repeat constructor) (by rfl)) (by rfl)) (by repeat constructor) (by repeat constructor) rfl ?_
        refine go_val1 rfl (idx_val Tk rfl rfl rfl rfl rfl (by omega)) rfl ?_
        refine go_val2 rfl (load_val Tk rfl rfl rfl (by first | exact at_pt (by repeat constructor) (by rfl) | exact at_cl 0 (by repeat constructor) (by rfl) | exact at_cl 1 (by repeat constructor) (by rfl) | exact at_cl 2 (by repeat constructor) (by rfl) | exact at_cl 3 (by repeat constructor) (by rfl) | exact at_cl 4 (by repeat constructor) (by rfl) | exact at_cl 5 (by repeat constructor) (by rfl) | exact at_cl 6 (by repeat constructor) (by rfl) | exact at_cl 7 (by repeat constructor) (by rfl)) (by rfl)) (by repeat constructor) (by repeat constructor) rfl ?_
        refine go_pure1 Tk rfl rfl rfl ?_
        refine go_nil ?_
        refine go_env [(2, _), (3, _), (5, _), (58, _)] ⟨rfl, rfl, rfl, rfl, trivial⟩ ?_
        refine go_condD rfl ?_ ?_
        · intro c4
          refine go_seq ?_
          refine go_region rfl ?_
          refine go_pure0 Tk rfl rfl rfl ?_
          refine go_nil ?_
          refine go_env [(4, _)] ⟨rfl, trivial⟩ ?_
          refine go_ret ⟨rfl, rfl⟩ _ _ (fun a w hp ho hf hs => res1 (by rfl) (.tmp rfl) a w hp ho hf hs) ⟨congrArg (Value.int .i64) (by rw [e1]; exact ((cmpL_at k (by omega) (by omega) hz).1 c4).symm), rfl, rfl⟩ (by repeat constructor) (by repeat constructor)
        · intro c4
          refine go_skip ?_
          refine go_seq ?_
          refine go_draw'  [1, 4, 6, 9] (SL.pre [(1, 0), (1, 2), (1, 5), (1, 7), (2, 1), (1, 3), (2, 4), (2, 6), (1, 8), (2, 9), (1, 10)] .nil) mixed rfl (by kernel_rfl) ?_
          refine go_pure1 Tk rfl rfl rfl ?_
          refine go_pure1 Tk rfl rfl rfl ?_
          refine go_pure1 Tk rfl rfl rfl ?_
          refine go_pure1 Tk rfl rfl rfl ?_
          refine go_val2 rfl (load_val Tk rfl rfl rfl (by first | exact at_pt (by repeat constructor) (by rfl) | exact at_cl 0 (by repeat constructor) (by rfl) | exact at_cl 1 (by repeat constructor) (by rfl) | exact at_cl 2 (by repeat constructor) (by rfl) | exact at_cl 3 (by repeat constructor) (by rfl) | exact at_cl 4 (by repeat constructor) (by rfl) | exact at_cl 5 (by repeat constructor) (by rfl) | exact at_cl 6 (by repeat constructor) (by rfl) | exact at_cl 7 (by repeat constructor) (by rfl)) (by rfl)) (by repeat constructor) (by repeat constructor) rfl ?_
          refine go_val1 rfl (idx_val Tk rfl rfl rfl rfl rfl (by omega)) rfl ?_
          refine go_val2 rfl (load_val Tk rfl rfl rfl (by first | exact at_pt (by repeat constructor) (by rfl) | exact at_cl 0 (by repeat constructor) (by rfl) | exact at_cl 1 (by repeat constructor) (by rfl) | exact at_cl 2 (by repeat constructor) (by rfl) | exact at_cl 3 (by repeat constructor) (by rfl) | exact at_cl 4 (by repeat constructor) (by rfl) | exact at_cl 5 (by repeat constructor) (by rfl) | exact at_cl 6 (by repeat constructor) (by rfl) | exact at_cl 7 (by repeat constructor) (by rfl)) (by rfl)) (by repeat constructor) (by repeat constructor) rfl ?_
          refine go_val2 rfl (load_val Tk rfl rfl rfl (by first | exact at_pt (by repeat constructor) (by rfl) | exact at_cl 0 (by repeat constructor) (by rfl) | exact at_cl 1 (by repeat constructor) (by rfl) | exact at_cl 2 (by repeat constructor) (by rfl) | exact at_cl 3 (by repeat constructor) (by rfl) | exact at_cl 4 (by repeat constructor) (by rfl) | exact at_cl 5 (by repeat constructor) (by rfl) | exact at_cl 6 (by repeat constructor) (by rfl) | exact at_cl 7 (by repeat constructor) (by rfl)) (by rfl)) (by repeat constructor) (by repeat constructor) rfl ?_
          refine go_val1 rfl (idx_val Tk rfl rfl rfl rfl rfl (by omega)) rfl ?_
          refine go_val2 rfl (load_val Tk rfl rfl rfl (by first | exact at_pt (by repeat constructor) (by rfl) | exact at_cl 0 (by repeat constructor) (by rfl) | exact at_cl 1 (by repeat constructor) (by rfl) | exact at_cl 2 (by repeat constructor) (by rfl) | exact at_cl 3 (by repeat constructor) (by rfl) | exact at_cl 4 (by repeat constructor) (by rfl) | exact at_cl 5 (by repeat constructor) (by rfl) | exact at_cl 6 (by repeat constructor) (by rfl) | exact at_cl 7 (by repeat constructor) (by rfl)) (by rfl)) (by repeat constructor) (by repeat constructor) rfl ?_
          refine go_pure1 Tk rfl rfl rfl ?_
          refine go_nil ?_
          refine go_env [(2, _), (3, _), (5, _), (69, _)] ⟨rfl, rfl, rfl, rfl, trivial⟩ ?_
          refine go_condD rfl ?_ ?_
          · intro c5
            refine go_seq ?_
            refine go_region rfl ?_
            refine go_pure0 Tk rfl rfl rfl ?_
            refine go_nil ?_
            refine go_env [(4, _)] ⟨rfl, trivial⟩ ?_
            refine go_ret ⟨rfl, rfl⟩ _ _ (fun a w hp ho hf hs => res1 (by rfl) (.tmp rfl) a w hp ho hf hs) ⟨congrArg (Value.int .i64) (by rw [e1]; exact ((cmpL_at k (by omega) (by omega) hz).2 c5).symm), rfl, rfl⟩ (by repeat constructor) (by repeat constructor)
          · intro c5
            refine go_skip ?_
            refine go_blk ?_
            refine go_region rfl ?_
            refine go_pure0 Tk rfl rfl rfl ?_
            refine go_pure0 Tk rfl rfl rfl ?_
            refine go_pure0 Tk rfl rfl rfl ?_
            refine go_nil ?_
            refine go_i64 5 rfl (by omega) (by omega) ?_
            refine go_back (k + 1) ⟨rfl, rfl, rfl, trivial⟩ (by repeat constructor) (by repeat constructor) (⟨by omega, take_next (by omega) (by omega) hz (by omega)⟩) (by omega)
      · intro c3
        refine go_exit rfl ?_
        refine go_seq ?_
        refine go_region rfl ?_
        refine go_pure0 Tk rfl rfl rfl ?_
        refine go_nil ?_
        refine go_env [(4, _)] ⟨rfl, trivial⟩ ?_
        refine go_ret ⟨rfl, rfl⟩ _ _ (fun a w hp ho hf hs => res1 (by rfl) (.tmp rfl) a w hp ho hf hs) ⟨congrArg (Value.int .i64) (by rw [e1, cmpL_all e3 (by omega) hz]), rfl, rfl⟩ (by repeat constructor) (by repeat constructor)

set_option maxHeartbeats 2000000 in
set_option maxRecDepth 20000 in
theorem refSameFact (p : Int) (A : Option Addr) (a : List Int) (c : Nat) (q : Int) (B : Option Addr) (b : List Int) (d : Nat) :
    Spec Try.prog 46 #[.agg #[.int .u32 p, .slice A a.length c], .agg #[.int .u32 q, .slice B b.length d]] [sl tU A c a, sl tU B d b] [] (fun v Ps' Os' => v = .bool (decide (cmpF p a q b = 0)) ∧ Ps' = [] ∧ Os' = []) := by
  refine spec_of (fn := Try.f46) (args := [.agg #[.int .u32 p, .slice A a.length c], .agg #[.int .u32 q, .slice B b.length d]]) 9 Try.func46 rfl (by kernel_rfl) Try.ntmps46 (Nat.le_of_ble_eq_true rfl) (fun w0 hp0 hf0 => ?_)
  refine go_seq ?_
  refine go_region rfl ?_
  refine go_box Tk rfl rfl rfl rfl (by rfl) rfl rfl (fun h => nomatch h) ?_
  intro b1
  refine go_box Tk rfl rfl rfl rfl (by rfl) rfl rfl (fun h => nomatch h) ?_
  intro b2
  refine go_pure0 Tk rfl rfl rfl ?_
  refine go_nil ?_
  refine go_env [(2, _), (3, _)] ⟨rfl, rfl, trivial⟩ ?_
  refine go_seq ?_
  refine go_region rfl ?_
  refine go_val0 rfl (load_val Tk rfl rfl rfl (by first | exact at_pt (by repeat constructor) (by rfl) | exact at_cl 0 (by repeat constructor) (by rfl) | exact at_cl 1 (by repeat constructor) (by rfl) | exact at_cl 2 (by repeat constructor) (by rfl) | exact at_cl 3 (by repeat constructor) (by rfl) | exact at_cl 4 (by repeat constructor) (by rfl) | exact at_cl 5 (by repeat constructor) (by rfl) | exact at_cl 6 (by repeat constructor) (by rfl) | exact at_cl 7 (by repeat constructor) (by rfl)) (by rfl)) rfl ?_
  refine go_val0 rfl (load_val Tk rfl rfl rfl (by first | exact at_pt (by repeat constructor) (by rfl) | exact at_cl 0 (by repeat constructor) (by rfl) | exact at_cl 1 (by repeat constructor) (by rfl) | exact at_cl 2 (by repeat constructor) (by rfl) | exact at_cl 3 (by repeat constructor) (by rfl) | exact at_cl 4 (by repeat constructor) (by rfl) | exact at_cl 5 (by repeat constructor) (by rfl) | exact at_cl 6 (by repeat constructor) (by rfl) | exact at_cl 7 (by repeat constructor) (by rfl)) (by rfl)) rfl ?_
  refine go_call (refCompare _ _ _ _ _ _ _ _) rfl rfl (by rfl) rfl (by repeat constructor) (by repeat constructor) (fun h => nomatch h) ?_
  rintro _ _ _ ⟨rfl, rfl, rfl⟩
  refine go_pure0 Tk rfl rfl rfl ?_
  refine go_pure0 Tk rfl rfl rfl ?_
  refine go_nil ?_
  refine go_env [(4, _)] ⟨rfl, trivial⟩ ?_
  refine go_ret ⟨rfl, rfl⟩ _ _ (fun a w hp ho hf hs => res1 (by rfl) (.tmp rfl) a w hp ho hf hs) ⟨rfl, rfl, rfl⟩ (by repeat constructor) (by repeat constructor)

end Go.Proofs.Ytdkfpgdfjnaciaa.SL
