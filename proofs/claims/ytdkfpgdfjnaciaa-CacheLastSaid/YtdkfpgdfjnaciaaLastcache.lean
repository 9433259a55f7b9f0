/- Contracts of functions of the program (Lastcache): what each call comes to, for the laws' proofs. -/
import Derived.Test.YtdkfpgdfjnaciaaPlaycache
import Derived.Test.YtdkfpgdfjnaciaaD3
set_option linter.unusedVariables false
set_option linter.unusedSimpArgs false
namespace Go.Proofs.Ytdkfpgdfjnaciaa.SL
open Go 

set_option maxHeartbeats 2000000 in
set_option maxRecDepth 20000 in
theorem lawCacheLast (r0 : Int) (hr : 0 ≤ r0 ∧ r0 < 256) (l : List Sc) (A : Option Addr) (c : Nat) (hl : ∀ x ∈ l, x.ok) :
    Spec Try.prog 5 #[.int .u8 r0, .slice A l.length c] [sl tSc A c l] [] (fun v Ps' Os' => v = .bool true ∧ Ps' = [] ∧ Os' = []) := by
  refine spec_of (fn := Try.f5) (args := [.int .u8 r0, .slice A l.length c]) 152 Try.func5 rfl (by kernel_rfl) Try.ntmps5 (Nat.le_of_ble_eq_true rfl) (fun w0 hp0 hf0 => ?_)
  refine go_seq ?_
  refine go_len (xs := l) (by repeat constructor) (fun l0 m0 => ?_)
  refine go_region ?_
  refine go_pure0 Tk rfl rfl rfl ?_
  refine go_nil ?_
  refine go_env [(0, _), (1, _)] ⟨rfl, rfl, trivial⟩ ?_
  refine go_seq ?_
  refine go_seq ?_
  refine go_region ?_
  refine go_pure0 Tk rfl rfl rfl ?_
  refine go_call (cacheFew _ _ _) rfl rfl (by rfl) rfl (by repeat constructor) (by repeat constructor) (fun h => nomatch h) ?_
  rintro _ _ _ ⟨rfl, rfl, rfl⟩
  refine go_pure0 Tk rfl rfl rfl ?_
  refine go_nil ?_
  refine go_env [(0, _), (1, _), (17, _)] ⟨rfl, rfl, rfl, trivial⟩ ?_
  refine go_cond rfl ?_ ?_
  · intro c1
    (try simp only [decide_eq_true_eq, decide_eq_false_iff_not, Bool.not_eq_true', Bool.not_eq_false', Bool.not_eq_eq_eq_not, Bool.not_true, Bool.not_false, Int.not_lt, Int.not_le, beq_iff_eq, beq_eq_false_iff_ne, ne_eq] at c1)
    refine go_seq ?_
    refine go_region ?_
    refine go_call (cacheWorks) rfl rfl (by rfl) rfl (by repeat constructor) (by repeat constructor) (fun h => nomatch h) ?_
    rintro _ _ _ ⟨rfl, rfl, rfl⟩
    refine go_pure0 Tk rfl rfl rfl ?_
    refine go_nil ?_
    refine go_env [(4, _)] ⟨rfl, trivial⟩ ?_
    refine go_ret _ _ (fun a w hp ho hf hs => res1 (by rfl) (.tmp rfl) a w hp ho hf hs) ⟨rfl, rfl, rfl⟩ (by repeat constructor) (by repeat constructor)
  · intro c1
    (try simp only [decide_eq_true_eq, decide_eq_false_iff_not, Bool.not_eq_true', Bool.not_eq_false', Bool.not_eq_eq_eq_not, Bool.not_true, Bool.not_false, Int.not_lt, Int.not_le, beq_iff_eq, beq_eq_false_iff_ne, ne_eq] at c1)
    obtain ⟨hw1, hw2⟩ := few_of c1
    refine go_skip ?_
    refine go_seq ?_
    refine go_region ?_
    refine go_pure0 Tk rfl rfl rfl ?_
    refine go_pure0 Tk rfl rfl rfl ?_
    refine go_i64 20 rfl (by omega) (by omega) ?_
    refine go_pure0 Tk rfl rfl rfl ?_
    refine go_re 21 (.int .i64 (r0 % 64)) (by show some (Value.int _ (Int.tmod _ _)) = _; rw [Int.tmod_eq_emod_of_nonneg (by omega)]) ?_
    refine go_pure0 Tk rfl rfl rfl ?_
    refine go_i64 22 rfl (by omega) (by omega) ?_
    obtain ⟨n, hn⟩ : ∃ n : Nat, 1 + r0 % 64 = (n : Int) := ⟨(1 + r0 % 64).toNat, by omega⟩
    refine go_re 22 (.int .i64 (n : Int)) (by rw [← hn]; rfl) ?_
    have hn1 : 1 ≤ n ∧ n ≤ 64 := by omega
    refine go_pure0 Tk rfl rfl rfl ?_
    refine go_nil ?_
    refine go_env [(1, _), (5, _)] ⟨rfl, rfl, trivial⟩ ?_
    refine go_seq ?_
    refine go_region ?_
    refine go_pure0 Tk rfl rfl rfl ?_
    refine go_call (cacheNewOk (n : Int) (by omega)) rfl rfl (by rfl) rfl (by repeat constructor) (by repeat constructor) (fun h => nomatch h) ?_
    rintro _ _ _ ⟨a, rfl, rfl, rfl⟩
    refine go_pure0 Tk rfl rfl rfl ?_
    refine go_pure0 Tk rfl rfl rfl ?_
    refine go_pure0 Tk rfl rfl rfl ?_
    refine go_pure0 Tk rfl rfl rfl ?_
    refine go_pure0 Tk rfl rfl rfl ?_
    refine go_nil ?_
    refine go_env [(1, _), (5, _), (6, _), (7, _)] ⟨rfl, rfl, rfl, rfl, trivial⟩ ?_
    refine go_seq ?_
    refine go_seq ?_
    refine go_region ?_
    refine go_pure0 Tk rfl rfl rfl ?_
    refine go_pure0 Tk rfl rfl rfl ?_
    refine go_pure0 Tk rfl rfl rfl ?_
    refine go_pure0 Tk rfl rfl rfl ?_
    refine go_pure0 Tk rfl rfl rfl ?_
    refine go_pure0 Tk rfl rfl rfl ?_
    refine go_nil ?_
    refine go_env [(1, _), (5, _), (6, _), (33, _)] ⟨rfl, rfl, rfl, rfl, trivial⟩ ?_
    refine go_cond_f rfl ?_
    refine go_skip ?_
    refine go_seq ?_
    refine go_seq ?_
    rw [show ([] : List En) = held n (putsRev (l.take 0).reverse) from by simp [putsRev, held_nil]]
    refine go_region ?_
    refine go_pure0 Tk rfl rfl rfl ?_
    refine go_nil ?_
    refine go_env [(1, _), (5, _), (6, _), (8, _)] ⟨rfl, rfl, rfl, rfl, trivial⟩ ?_
    refine go_block ?_
    refine go_loop' (X := Nat) (fun k => [(8, .int .i64 (k : Int))]) [(1, _), (5, _), (6, _)] (fun k => [cch a n (held n (putsRev (l.take k).reverse))]) (fun k => k ≤ l.length) (fun k => l.length - k) (0) ⟨rfl, rfl, rfl, rfl, trivial⟩ (by repeat constructor) (by omega) ?_
    intro k hk
    refine go_seq ?_
    refine go_seq ?_
    refine go_region ?_
    refine go_pure0 Tk rfl rfl rfl ?_
    refine go_pure0 Tk rfl rfl rfl ?_
    refine go_pure0 Tk rfl rfl rfl ?_
    refine go_pure0 Tk rfl rfl rfl ?_
    refine go_nil ?_
    refine go_env [(1, _), (5, _), (6, _), (8, _), (37, _)] ⟨rfl, rfl, rfl, rfl, rfl, trivial⟩ ?_
    refine go_condD rfl ?_ ?_
    · intro c1
      refine go_skip ?_
      refine go_seq ?_
      refine go_block ?_
      refine go_seq ?_
      refine go_elem_sc (xs := l) (by repeat constructor) (k) (List.getElem?_eq_getElem (by omega)) (fun b3 o3 QA qc hA => ?_); cases hA
      have hq := hl l[k] (List.getElem_mem _)
      have hlen := hw2 l[k] (List.getElem_mem _)
      have hLn := held_len n (putsRev (l.take k).reverse)
      refine go_region ?_
      refine go_pure0 Tk rfl rfl rfl ?_
      refine go_pure0 Tk rfl rfl rfl ?_
      refine go_val0 rfl (idx_val Tk rfl rfl rfl rfl rfl (by omega)) rfl ?_
      refine go_pure0 Tk rfl rfl rfl ?_
      refine go_val0 rfl (load_val Tk rfl rfl rfl (by first | exact at_pt (by repeat constructor) (by rfl) | exact at_cl 0 (by repeat constructor) (by rfl) | exact at_cl 1 (by repeat constructor) (by rfl) | exact at_cl 2 (by repeat constructor) (by rfl) | exact at_cl 3 (by repeat constructor) (by rfl) | exact at_cl 4 (by repeat constructor) (by rfl) | exact at_cl 5 (by repeat constructor) (by rfl) | exact at_cl 6 (by repeat constructor) (by rfl) | exact at_cl 7 (by repeat constructor) (by rfl)) (by rfl)) rfl ?_
      refine go_nil ?_
      refine go_env [(1, _), (5, _), (6, _), (8, _), (44, _)] ⟨rfl, rfl, rfl, rfl, rfl, trivial⟩ ?_
      refine go_cutO (X := Unit) (fun _ => []) [(1, _), (5, _), (6, _), (8, _)] (fun _ => [cch a n (held n (putsRev (l.take (k + 1)).reverse))]) ([cch a n (held n (putsRev (l.take k).reverse))]) (fun _ => True) ⟨rfl, rfl, rfl, rfl, trivial⟩ (by repeat constructor) ?_ ?_
      · skip
        refine go_cond rfl ?_ ?_
        · intro cc
          (try simp only [decide_eq_true_eq, decide_eq_false_iff_not, Bool.not_eq_true', Bool.not_eq_false', Bool.not_eq_eq_eq_not, Bool.not_true, Bool.not_false, Int.not_lt, Int.not_le, beq_iff_eq, beq_eq_false_iff_ne, ne_eq] at cc)
          refine go_region ?_
          refine go_pure0 Tk rfl rfl rfl ?_
          refine go_call (cacheClear a n (held n (putsRev (l.take k).reverse))) rfl rfl (by rfl) rfl (by repeat constructor) (by repeat constructor) (fun h => nomatch h) ?_
          rintro _ _ _ ⟨rfl, rfl, rfl⟩
          refine go_nil ?_
          rw [show held n (putsRev (l.take (k + 1)).reverse) = [] from by rw [putsRev_next (by omega), if_pos cc, held_nil]]
          refine go_back () ⟨rfl, rfl, rfl, rfl, trivial⟩ (by repeat constructor) (by repeat constructor) trivial (by decide)
        · intro cc
          (try simp only [decide_eq_true_eq, decide_eq_false_iff_not, Bool.not_eq_true', Bool.not_eq_false', Bool.not_eq_eq_eq_not, Bool.not_true, Bool.not_false, Int.not_lt, Int.not_le, beq_iff_eq, beq_eq_false_iff_ne, ne_eq] at cc)
          refine go_seq ?_
          refine go_region ?_
          refine go_pure0 Tk rfl rfl rfl ?_
          refine go_pure0 Tk rfl rfl rfl ?_
          refine go_val0 rfl (idx_val Tk rfl rfl rfl rfl rfl (by omega)) rfl ?_
          refine go_pure0 Tk rfl rfl rfl ?_
          refine go_val0 rfl (load_val Tk rfl rfl rfl (by first | exact at_pt (by repeat constructor) (by rfl) | exact at_cl 0 (by repeat constructor) (by rfl) | exact at_cl 1 (by repeat constructor) (by rfl) | exact at_cl 2 (by repeat constructor) (by rfl) | exact at_cl 3 (by repeat constructor) (by rfl) | exact at_cl 4 (by repeat constructor) (by rfl) | exact at_cl 5 (by repeat constructor) (by rfl) | exact at_cl 6 (by repeat constructor) (by rfl) | exact at_cl 7 (by repeat constructor) (by rfl)) (by rfl)) rfl ?_
          refine go_pure0 Tk rfl rfl rfl ?_
          refine go_nil ?_
          refine go_env [(1, _), (5, _), (6, _), (8, _), (52, _)] ⟨rfl, rfl, rfl, rfl, rfl, trivial⟩ ?_
          refine go_cond rfl ?_ ?_
          · intro ck
            (try simp only [decide_eq_true_eq, decide_eq_false_iff_not, Bool.not_eq_true', Bool.not_eq_false', Bool.not_eq_eq_eq_not, Bool.not_true, Bool.not_false, Int.not_lt, Int.not_le, beq_iff_eq, beq_eq_false_iff_ne, ne_eq] at ck)
            refine go_draw'  [5, 10] (pre [(1, 0), (1, 1), (1, 2), (1, 3), (1, 4), (1, 6), (1, 7), (1, 8), (1, 9), (2, 5), (2, 10), (0, 11)] .nil) mixed (by kernel_rfl) ?_
            refine go_pure1 Tk rfl rfl rfl ?_
            refine go_pure1 Tk rfl rfl rfl ?_
            refine go_pure1 Tk rfl rfl rfl ?_
            refine go_val1 rfl (idx_val Tk rfl rfl rfl rfl rfl (by omega)) rfl ?_
            refine go_pure1 Tk rfl rfl rfl ?_
            refine go_pure1 Tk rfl rfl rfl ?_
            refine go_pure1 Tk rfl rfl rfl ?_
            refine go_val1 rfl (idx_val Tk rfl rfl rfl rfl rfl (by omega)) rfl ?_
            refine go_pure1 Tk rfl rfl rfl ?_
            refine go_val2 rfl (load_val Tk rfl rfl rfl (by first | exact at_pt (by repeat constructor) (by rfl) | exact at_cl 0 (by repeat constructor) (by rfl) | exact at_cl 1 (by repeat constructor) (by rfl) | exact at_cl 2 (by repeat constructor) (by rfl) | exact at_cl 3 (by repeat constructor) (by rfl) | exact at_cl 4 (by repeat constructor) (by rfl) | exact at_cl 5 (by repeat constructor) (by rfl) | exact at_cl 6 (by repeat constructor) (by rfl) | exact at_cl 7 (by repeat constructor) (by rfl)) (by rfl)) (by repeat constructor) (by repeat constructor) rfl ?_
            refine go_val2 rfl (load_val Tk rfl rfl rfl (by first | exact at_pt (by repeat constructor) (by rfl) | exact at_cl 0 (by repeat constructor) (by rfl) | exact at_cl 1 (by repeat constructor) (by rfl) | exact at_cl 2 (by repeat constructor) (by rfl) | exact at_cl 3 (by repeat constructor) (by rfl) | exact at_cl 4 (by repeat constructor) (by rfl) | exact at_cl 5 (by repeat constructor) (by rfl) | exact at_cl 6 (by repeat constructor) (by rfl) | exact at_cl 7 (by repeat constructor) (by rfl)) (by rfl)) (by repeat constructor) (by repeat constructor) rfl ?_
            refine go_call (cachePut a n (held n (putsRev (l.take k).reverse)) l[k].q QA qc (held_ok (putsRev_ok (fun x hx => hl x (List.mem_of_mem_take (List.mem_reverse.1 hx))))) hq.1 (by omega) l[k].v (by omega)) rfl rfl (by rfl) rfl (by repeat constructor) (by repeat constructor) (fun h => nomatch h) ?_
            rintro _ _ _ ⟨rfl, rfl, rfl⟩
            refine go_nil ?_
            rw [show held n (putsRev (l.take (k + 1)).reverse) = cput (n : Int) (held n (putsRev (l.take k).reverse)) l[k].q l[k].v from by rw [putsRev_next (by omega), if_neg (by simp [cc]), if_neg (by simp [ck]), cput_held (by omega)]]
            refine go_back () ⟨rfl, rfl, rfl, rfl, trivial⟩ (by repeat constructor) (by repeat constructor) trivial (by decide)
          · intro ck
            (try simp only [decide_eq_true_eq, decide_eq_false_iff_not, Bool.not_eq_true', Bool.not_eq_false', Bool.not_eq_eq_eq_not, Bool.not_true, Bool.not_false, Int.not_lt, Int.not_le, beq_iff_eq, beq_eq_false_iff_ne, ne_eq] at ck)
            refine go_skip ?_
            rw [show held n (putsRev (l.take (k + 1)).reverse) = held n (putsRev (l.take k).reverse) from by rw [putsRev_next (by omega), if_neg (by simp [cc]), if_pos ck]]
            refine go_back () ⟨rfl, rfl, rfl, rfl, trivial⟩ (by repeat constructor) (by repeat constructor) trivial (by decide)
      intro _ _
      refine go_blk ?_
      refine go_region ?_
      refine go_pure0 Tk rfl rfl rfl ?_
      refine go_pure0 Tk rfl rfl rfl ?_
      refine go_pure0 Tk rfl rfl rfl ?_
      refine go_nil ?_
      refine go_i64 8 rfl (by omega) (by omega) ?_
      refine go_back (k + 1) ⟨rfl, rfl, rfl, rfl, trivial⟩ (by repeat constructor) (by repeat constructor) (by omega) (by omega)
    · intro c1
      refine go_exit rfl ?_
      refine go_seq ?_
      refine go_region ?_
      refine go_pure0 Tk rfl rfl rfl ?_
      refine go_own_nil tFa 31 none ?_
      obtain rfl : k = l.length := by omega
      rw [List.take_length]
      have hP := putsRev_ok (l := l.reverse) (fun x hx => hl x (List.mem_reverse.1 hx))
      generalize hPP : putsRev l.reverse = P at *
      refine go_nil ?_
      refine go_env [(1, _), (5, _), (6, _), (9, _)] ⟨rfl, rfl, rfl, rfl, trivial⟩ ?_
      refine go_seq ?_
      refine go_seq ?_
      refine go_region ?_
      refine go_pure0 Tk rfl rfl rfl ?_
      refine go_pure0 Tk rfl rfl rfl ?_
      refine go_pure0 Tk rfl rfl rfl ?_
      refine go_i64 67 rfl (by omega) (by omega) ?_
      refine go_pure0 Tk rfl rfl rfl ?_
      refine go_nil ?_
      refine go_env [(1, _), (5, _), (6, _), (9, _), (10, _)] ⟨rfl, rfl, rfl, rfl, rfl, trivial⟩ ?_
      refine go_block ?_
      refine go_loop' (X := Nat × List En × Option Addr × Nat) (fun x => [(9, .slice x.2.2.1 ((recent x.2.1).map (·.1)).length x.2.2.2), (10, .int .i64 ((x.1 : Int) - 1))]) [(1, _), (5, _), (6, _)] (fun x => [ol tFa 31 x.2.2.1 x.2.2.2 ((recent x.2.1).map (·.1))]) (fun x => x.1 ≤ l.length ∧ P = x.2.1 ++ putsRev (l.take x.1).reverse ∧ (recent x.2.1).length ≤ l.length - x.1) (fun x => x.1) ((l.length, [], none, 0)) ⟨rfl, rfl, rfl, rfl, rfl, trivial⟩ (by repeat constructor) ⟨Nat.le_refl _, by simp [hPP], by simp [recent]⟩ ?_
      intro ⟨k, D, A', c'⟩ ⟨hk, hD, hDl⟩
      simp only at hk hD hDl ⊢
      refine go_seq ?_
      refine go_seq ?_
      refine go_region ?_
      refine go_pure0 Tk rfl rfl rfl ?_
      refine go_pure0 Tk rfl rfl rfl ?_
      refine go_pure0 Tk rfl rfl rfl ?_
      refine go_known 70 rfl ?_ ?_
      · intro g1
        (try simp only [decide_eq_true_eq, decide_eq_false_iff_not, Bool.not_eq_true', Bool.not_eq_false', Bool.not_eq_eq_eq_not, Bool.not_true, Bool.not_false, Int.not_lt, Int.not_le, beq_iff_eq, beq_eq_false_iff_ne, ne_eq] at g1)
        obtain ⟨m, rfl⟩ : ∃ m, k = m + 1 := ⟨k - 1, by omega⟩
        refine go_re 10 (.int .i64 (m : Int)) (by show some (Value.int _ (((m + 1 : Nat) : Int) - 1)) = _; congr 2; omega) ?_
        refine go_elem_sc (xs := l) (by repeat constructor) (m) (List.getElem?_eq_getElem (by omega)) (fun b6 o6 QA qc hA => ?_); cases hA
        refine go_pure0 Tk rfl rfl rfl ?_
        refine go_pure0 Tk rfl rfl rfl ?_
        refine go_val0 rfl (idx_val Tk rfl rfl rfl rfl rfl (by omega)) rfl ?_
        refine go_pure0 Tk rfl rfl rfl ?_
        refine go_val0 rfl (load_val Tk rfl rfl rfl (by first | exact at_pt (by repeat constructor) (by rfl) | exact at_cl 0 (by repeat constructor) (by rfl) | exact at_cl 1 (by repeat constructor) (by rfl) | exact at_cl 2 (by repeat constructor) (by rfl) | exact at_cl 3 (by repeat constructor) (by rfl) | exact at_cl 4 (by repeat constructor) (by rfl) | exact at_cl 5 (by repeat constructor) (by rfl) | exact at_cl 6 (by repeat constructor) (by rfl) | exact at_cl 7 (by repeat constructor) (by rfl)) (by rfl)) rfl ?_
        refine go_pure0 Tk rfl rfl rfl ?_
        refine go_pure0 Tk rfl rfl rfl ?_
        refine go_nil ?_
        refine go_env [(1, _), (5, _), (6, _), (9, _), (10, _), (71, _), (72, _), (73, _), (74, _), (75, _), (76, _), (77, _)] ⟨rfl, rfl, rfl, rfl, rfl, rfl, rfl, rfl, rfl, rfl, rfl, rfl, trivial⟩ ?_
        refine go_cond rfl ?_ ?_
        · intro cl
          (try simp only [decide_eq_true_eq, decide_eq_false_iff_not, Bool.not_eq_true', Bool.not_eq_false', Bool.not_eq_eq_eq_not, Bool.not_true, Bool.not_false, Int.not_lt, Int.not_le, beq_iff_eq, beq_eq_false_iff_ne, ne_eq] at cl)
          refine go_skip ?_
          refine go_seq ?_
          refine go_block ?_
          refine go_seq ?_
          refine go_seq ?_
          refine go_region ?_
          refine go_pure0 Tk rfl rfl rfl ?_
          refine go_pure0 Tk rfl rfl rfl ?_
          refine go_val0 rfl (idx_val Tk rfl rfl rfl rfl rfl (by omega)) rfl ?_
          refine go_pure0 Tk rfl rfl rfl ?_
          refine go_val0 rfl (load_val Tk rfl rfl rfl (by first | exact at_pt (by repeat constructor) (by rfl) | exact at_cl 0 (by repeat constructor) (by rfl) | exact at_cl 1 (by repeat constructor) (by rfl) | exact at_cl 2 (by repeat constructor) (by rfl) | exact at_cl 3 (by repeat constructor) (by rfl) | exact at_cl 4 (by repeat constructor) (by rfl) | exact at_cl 5 (by repeat constructor) (by rfl) | exact at_cl 6 (by repeat constructor) (by rfl) | exact at_cl 7 (by repeat constructor) (by rfl)) (by rfl)) rfl ?_
          refine go_nil ?_
          refine go_env [(1, _), (5, _), (6, _), (9, _), (10, _), (71, _), (72, _), (73, _), (74, _), (75, _), (76, _), (84, _)] ⟨rfl, rfl, rfl, rfl, rfl, rfl, rfl, rfl, rfl, rfl, rfl, rfl, trivial⟩ ?_
          refine go_cond rfl ?_ ?_
          · intro ck
            (try simp only [decide_eq_true_eq, decide_eq_false_iff_not, Bool.not_eq_true', Bool.not_eq_false', Bool.not_eq_eq_eq_not, Bool.not_true, Bool.not_false, Int.not_lt, Int.not_le, beq_iff_eq, beq_eq_false_iff_ne, ne_eq] at ck)
            refine go_exit rfl ?_
            refine go_region ?_
            refine go_pure0 Tk rfl rfl rfl ?_
            refine go_pure0 Tk rfl rfl rfl ?_
            refine go_pure0 Tk rfl rfl rfl ?_
            refine go_nil ?_
            refine go_i64 10 rfl (by omega) (by omega) ?_
            refine go_back (m, D, A', c') ⟨rfl, rfl, rfl, rfl, rfl, trivial⟩ (by repeat constructor) (by repeat constructor) ⟨by show m ≤ _; omega, by show P = D ++ _; rw [hD, putsRev_next (by omega), if_neg (by simp [cl]), if_pos ck], by show (recent D).length ≤ l.length - m; omega⟩ (by show m < m + 1; omega)
          · intro ck
            (try simp only [decide_eq_true_eq, decide_eq_false_iff_not, Bool.not_eq_true', Bool.not_eq_false', Bool.not_eq_eq_eq_not, Bool.not_true, Bool.not_false, Int.not_lt, Int.not_le, beq_iff_eq, beq_eq_false_iff_ne, ne_eq] at ck)
            refine go_skip ?_
            refine go_seq ?_
            refine go_region ?_
            refine go_pure0 Tk rfl rfl rfl ?_
            refine go_nil ?_
            refine go_env [(1, _), (5, _), (6, _), (9, _), (10, _), (11, _), (71, _), (72, _), (73, _), (74, _), (75, _), (76, _)] ⟨rfl, rfl, rfl, rfl, rfl, rfl, rfl, rfl, rfl, rfl, rfl, rfl, trivial⟩ ?_
            refine go_seq ?_
            refine go_seq ?_
            refine go_region ?_
            refine go_pure0 Tk rfl rfl rfl ?_
            refine go_nil ?_
            refine go_env [(1, _), (5, _), (6, _), (9, _), (10, _), (11, _), (12, _), (71, _), (72, _), (73, _), (74, _), (75, _), (76, _)] ⟨rfl, rfl, rfl, rfl, rfl, rfl, rfl, rfl, rfl, rfl, rfl, rfl, rfl, trivial⟩ ?_
            refine go_block ?_
            refine go_loop' (X := Nat × Bool) (fun y => [(11, .bool y.2), (12, .int .i64 (y.1 : Int))]) [(1, _), (5, _), (6, _), (9, _), (10, _), (71, _), (72, _), (73, _), (74, _), (75, _), (76, _)] (fun _ => []) (fun y => y.1 ≤ (recent D).length ∧ y.2 = decide (l[m].q ∈ ((recent D).map (·.1)).take y.1)) (fun y => (recent D).length - y.1) ((0, false)) ⟨rfl, rfl, rfl, rfl, rfl, rfl, rfl, rfl, rfl, rfl, rfl, rfl, rfl, trivial⟩ (by repeat constructor) ⟨by omega, by simp⟩ ?_
            intro ⟨j, is⟩ ⟨hj1, his⟩
            simp only at hj1 his ⊢
            refine go_seq ?_
            refine go_seq ?_
            refine go_region ?_
            refine go_pure0 Tk rfl rfl rfl ?_
            refine go_pure0 Tk rfl rfl rfl ?_
            refine go_pure0 Tk rfl rfl rfl ?_
            refine go_pure0 Tk rfl rfl rfl ?_
            refine go_nil ?_
            refine go_env [(1, _), (5, _), (6, _), (9, _), (10, _), (11, _), (12, _), (71, _), (72, _), (73, _), (74, _), (75, _), (76, _), (88, _)] ⟨rfl, rfl, rfl, rfl, rfl, rfl, rfl, rfl, rfl, rfl, rfl, rfl, rfl, rfl, trivial⟩ ?_
            refine go_condD rfl ?_ ?_
            · intro cj
              have hj : j < ((recent D).map (·.1)).length := by rw [List.length_map] at *; omega
              refine go_skip ?_
              refine go_seq ?_
              refine go_block ?_
              refine go_cut' (X := Bool) (fun y => [(11, .bool y)]) [(1, _), (5, _), (6, _), (9, _), (10, _), (12, _), (71, _), (72, _), (73, _), (74, _), (75, _), (76, _)] (fun y => y = decide (l[m].q ∈ ((recent D).map (·.1)).take (j + 1))) ⟨rfl, rfl, rfl, rfl, rfl, rfl, rfl, rfl, rfl, rfl, rfl, rfl, trivial⟩ ?_ ?_
              · skip
                refine go_ol_open (xs := (recent D).map (·.1)) (by repeat constructor) (by simp only [List.length_map] at *; omega) (fun b0 cs cur hA h1 h2 h3 h4 h5 => ?_); cases hA
                refine go_rps_at (by repeat constructor) j (List.getElem?_eq_getElem hj) (fun ds d1 d2 => ?_)
                refine go_rp_fa (by repeat constructor) (fun FA fc hd => ?_); subst hd
                refine go_draw'  [5, 10] (pre [(1, 0), (1, 1), (1, 2), (1, 3), (1, 4), (1, 6), (1, 7), (1, 8), (1, 9), (2, 5), (2, 10), (0, 11), (1, 12), (1, 13), (1, 14)] .nil) mixed (by kernel_rfl) ?_
                refine go_pure1 Tk rfl rfl rfl ?_
                refine go_pure1 Tk rfl rfl rfl ?_
                refine go_known 92 rfl ?_ ?_
                · intro g5
                  (try simp only [decide_eq_true_eq, decide_eq_false_iff_not, Bool.not_eq_true', Bool.not_eq_false', Bool.not_eq_eq_eq_not, Bool.not_true, Bool.not_false, Int.not_lt, Int.not_le, beq_iff_eq, beq_eq_false_iff_ne, ne_eq] at g5)
                  refine go_skip1 rfl rfl ?_
                  refine go_skip1 rfl rfl ?_
                  refine go_skip1 rfl rfl ?_
                  refine go_skip1 rfl rfl ?_
                  refine go_skip1 rfl rfl ?_
                  refine go_skip1 rfl rfl ?_
                  refine go_skip1 rfl rfl ?_
                  refine go_skip2 rfl (by repeat constructor) (by repeat constructor) rfl ?_
                  refine go_skip2 rfl (by repeat constructor) (by repeat constructor) rfl ?_
                  refine go_skip0 rfl rfl ?_
                  refine go_skip1 rfl rfl ?_
                  refine go_pure1 Tk rfl rfl rfl ?_
                  refine go_pure1 Tk rfl rfl rfl ?_
                  refine go_nil ?_
                  refine go_ol_close ((recent D).map (·.1)) (by repeat constructor) (by repeat constructor) h1 h2 h3 h4 ?_
                  refine go_back _ ⟨rfl, rfl, rfl, rfl, rfl, rfl, rfl, rfl, rfl, rfl, rfl, rfl, rfl, trivial⟩ (by repeat constructor) (by repeat constructor) (mem_step hj (by first | exact .inl ⟨his, g5, rfl⟩ | exact .inr ⟨his, g5, decide_eq_decide.2 cmpF_zero⟩)) (by decide)
                · intro g5
                  (try simp only [decide_eq_true_eq, decide_eq_false_iff_not, Bool.not_eq_true', Bool.not_eq_false', Bool.not_eq_eq_eq_not, Bool.not_true, Bool.not_false, Int.not_lt, Int.not_le, beq_iff_eq, beq_eq_false_iff_ne, ne_eq] at g5)
                  refine go_pure1 Tk rfl rfl rfl ?_
                  refine go_pure1 Tk rfl rfl rfl ?_
                  refine go_val1 rfl (idx_val Tk rfl rfl rfl rfl rfl (by omega)) rfl ?_
                  refine go_pure1 Tk rfl rfl rfl ?_
                  refine go_pure1 Tk rfl rfl rfl ?_
                  refine go_val1 rfl (idx_val Tk rfl rfl rfl rfl rfl (by omega)) rfl ?_
                  refine go_pure1 Tk rfl rfl rfl ?_
                  refine go_val2 rfl (load_val Tk rfl rfl rfl (at_row 0 (by repeat constructor) h2 d2 rfl) rfl) (by repeat constructor) (by repeat constructor) rfl ?_
                  refine go_val2 rfl (load_val Tk rfl rfl rfl (by first | exact at_pt (by repeat constructor) (by rfl) | exact at_cl 0 (by repeat constructor) (by rfl) | exact at_cl 1 (by repeat constructor) (by rfl) | exact at_cl 2 (by repeat constructor) (by rfl) | exact at_cl 3 (by repeat constructor) (by rfl) | exact at_cl 4 (by repeat constructor) (by rfl) | exact at_cl 5 (by repeat constructor) (by rfl) | exact at_cl 6 (by repeat constructor) (by rfl) | exact at_cl 7 (by repeat constructor) (by rfl)) (by rfl)) (by repeat constructor) (by repeat constructor) rfl ?_
                  refine go_call (refCompare _ _ _ _ _ _ _ _) rfl rfl (by rfl) rfl (by repeat constructor) (by repeat constructor) (fun h => nomatch h) ?_
                  rintro _ _ _ ⟨rfl, rfl, rfl⟩
                  refine go_pure1 Tk rfl rfl rfl ?_
                  refine go_pure1 Tk rfl rfl rfl ?_
                  refine go_pure1 Tk rfl rfl rfl ?_
                  refine go_nil ?_
                  refine go_ol_close ((recent D).map (·.1)) (by repeat constructor) (by repeat constructor) h1 h2 h3 h4 ?_
                  refine go_back _ ⟨rfl, rfl, rfl, rfl, rfl, rfl, rfl, rfl, rfl, rfl, rfl, rfl, rfl, trivial⟩ (by repeat constructor) (by repeat constructor) (mem_step hj (by first | exact .inl ⟨his, g5, rfl⟩ | exact .inr ⟨his, g5, decide_eq_decide.2 cmpF_zero⟩)) (by decide)
              intro is2 hx
              refine go_blk ?_
              refine go_region ?_
              refine go_pure0 Tk rfl rfl rfl ?_
              refine go_pure0 Tk rfl rfl rfl ?_
              refine go_pure0 Tk rfl rfl rfl ?_
              refine go_nil ?_
              refine go_i64 12 rfl (by omega) (by omega) ?_
              refine go_back (j + 1, _) ⟨rfl, rfl, rfl, rfl, rfl, rfl, rfl, rfl, rfl, rfl, rfl, rfl, rfl, trivial⟩ (by repeat constructor) (by repeat constructor) ⟨by show j + 1 ≤ (recent D).length; rw [List.length_map] at hj; omega, hx⟩ (by show (recent D).length - (j + 1) < (recent D).length - j; rw [List.length_map] at hj; omega)
            · intro cj
              refine go_exit rfl ?_
              refine go_seq ?_
              refine go_seq ?_
              refine go_region ?_
              refine go_pure0 Tk rfl rfl rfl ?_
              refine go_nil ?_
              refine go_env [(1, _), (5, _), (6, _), (9, _), (10, _), (71, _), (72, _), (73, _), (74, _), (75, _), (76, _), (105, _)] ⟨rfl, rfl, rfl, rfl, rfl, rfl, rfl, rfl, rfl, rfl, rfl, rfl, trivial⟩ ?_
              refine go_cond rfl ?_ ?_
              · intro ci
                (try simp only [decide_eq_true_eq, decide_eq_false_iff_not, Bool.not_eq_true', Bool.not_eq_false', Bool.not_eq_eq_eq_not, Bool.not_true, Bool.not_false, Int.not_lt, Int.not_le, beq_iff_eq, beq_eq_false_iff_ne, ne_eq] at ci)
                have hin : l[m].q ∈ (recent D).map (·.1) := by rw [his, decide_eq_true_eq] at ci; exact List.mem_of_mem_take ci
                refine go_exit rfl ?_
                refine go_region ?_
                refine go_pure0 Tk rfl rfl rfl ?_
                refine go_pure0 Tk rfl rfl rfl ?_
                refine go_pure0 Tk rfl rfl rfl ?_
                refine go_nil ?_
                refine go_i64 10 rfl (by omega) (by omega) ?_
                have hrec := recent_snoc D (l[m].q, l[m].v)
                rw [if_pos hin] at hrec
                rw [← hrec]
                refine go_back (m, D ++ [(l[m].q, l[m].v)], A', c') ⟨rfl, rfl, rfl, rfl, rfl, trivial⟩ (by repeat constructor) (by repeat constructor) ⟨by show m ≤ _; omega, by show P = _ ++ _; rw [hD, putsRev_next (by omega), if_neg (by simp [cl]), if_neg (by simp [ck])]; simp, by show (recent (D ++ _)).length ≤ l.length - m; rw [hrec]; omega⟩ (by show m < m + 1; omega)
              · intro ci
                (try simp only [decide_eq_true_eq, decide_eq_false_iff_not, Bool.not_eq_true', Bool.not_eq_false', Bool.not_eq_eq_eq_not, Bool.not_true, Bool.not_false, Int.not_lt, Int.not_le, beq_iff_eq, beq_eq_false_iff_ne, ne_eq] at ci)
                have hin : ¬ l[m].q ∈ (recent D).map (·.1) := by rw [his, decide_eq_false_iff_not, List.take_of_length_le (by simp only [List.length_map] at *; omega)] at ci; exact ci
                have hrec := recent_snoc D (l[m].q, l[m].v)
                rw [if_neg hin] at hrec
                have hq := hl l[m] (List.getElem_mem _)
                have hlen := hw2 l[m] (List.getElem_mem _)
                refine go_skip ?_
                refine go_seq ?_
                refine go_region ?_
                refine go_pure0 Tk rfl rfl rfl ?_
                refine go_pure0 Tk rfl rfl rfl ?_
                refine go_pure0 Tk rfl rfl rfl ?_
                refine go_val0 rfl (idx_val Tk rfl rfl rfl rfl rfl (by omega)) rfl ?_
                refine go_pure0 Tk rfl rfl rfl ?_
                refine go_val0 rfl (load_val Tk rfl rfl rfl (by first | exact at_pt (by repeat constructor) (by rfl) | exact at_cl 0 (by repeat constructor) (by rfl) | exact at_cl 1 (by repeat constructor) (by rfl) | exact at_cl 2 (by repeat constructor) (by rfl) | exact at_cl 3 (by repeat constructor) (by rfl) | exact at_cl 4 (by repeat constructor) (by rfl) | exact at_cl 5 (by repeat constructor) (by rfl) | exact at_cl 6 (by repeat constructor) (by rfl) | exact at_cl 7 (by repeat constructor) (by rfl)) (by rfl)) rfl ?_
                refine go_bslice Tk rfl rfl rfl rfl rfl rfl rfl rfl (fun h => nomatch h) ?_
                intro b1
                refine go_append1 (T := tFa) Tk l[m].q rfl rfl rfl rfl rfl rfl rfl rfl rfl (by repeat constructor) (by repeat constructor) rfl (ent_fa (by repeat constructor)) (by simp; omega) (fun h => nomatch h) ?_
                intro A2 c2
                rw [show (recent D).map (·.1) ++ [l[m].q] = (recent (D ++ [(l[m].q, l[m].v)])).map (·.1) from by rw [hrec]; simp]
                refine go_pure0 Tk rfl rfl rfl ?_
                refine go_nil ?_
                refine go_env [(1, _), (5, _), (6, _), (9, _), (10, _), (71, _), (72, _), (73, _), (74, _), (75, _), (76, _)] ⟨rfl, rfl, rfl, rfl, rfl, rfl, rfl, rfl, rfl, rfl, rfl, trivial⟩ ?_
                refine go_seq ?_
                obtain ⟨t, ht⟩ := recent_prefix (D ++ [(l[m].q, l[m].v)]) (putsRev (l.take m).reverse)
                have he : D ++ putsRev (l.take (m + 1)).reverse = D ++ [(l[m].q, l[m].v)] ++ putsRev (l.take m).reverse := by rw [putsRev_next (by omega), if_neg (by simp [cl]), if_neg (by simp [ck])]; simp
                have hfull : recent P = recent D ++ (l[m].q, l[m].v) :: t := by rw [hD, he, ht, hrec]; simp
                have hg : cget (held n P) l[m].q = (if (recent D).length < n then l[m].v else 0, decide ((recent D).length < n)) := cget_held hfull
                have hb : decide ((recent D).length < n) = decide (((((recent (D ++ [(l[m].q, l[m].v)])).map (·.1)).length : Nat) : Int) ≤ (n : Int)) := by rw [decide_eq_decide, hrec]; simp; omega
                refine go_region ?_
                refine go_pure0 Tk rfl rfl rfl ?_
                refine go_pure0 Tk rfl rfl rfl ?_
                refine go_pure0 Tk rfl rfl rfl ?_
                refine go_val0 rfl (idx_val Tk rfl rfl rfl rfl rfl (by omega)) rfl ?_
                refine go_pure0 Tk rfl rfl rfl ?_
                refine go_val0 rfl (load_val Tk rfl rfl rfl (by first | exact at_pt (by repeat constructor) (by rfl) | exact at_cl 0 (by repeat constructor) (by rfl) | exact at_cl 1 (by repeat constructor) (by rfl) | exact at_cl 2 (by repeat constructor) (by rfl) | exact at_cl 3 (by repeat constructor) (by rfl) | exact at_cl 4 (by repeat constructor) (by rfl) | exact at_cl 5 (by repeat constructor) (by rfl) | exact at_cl 6 (by repeat constructor) (by rfl) | exact at_cl 7 (by repeat constructor) (by rfl)) (by rfl)) rfl ?_
                refine go_call (cacheGet a n (held n P) l[m].q QA qc (held_ok hP) hq.1 (by omega)) rfl rfl (by rfl) rfl (by repeat constructor) (by repeat constructor) (fun h => nomatch h) ?_
                rintro _ _ _ ⟨rfl, rfl, rfl⟩
                rw [hg]
                refine go_pure0 Tk rfl rfl rfl ?_
                refine go_pure0 Tk rfl rfl rfl ?_
                refine go_pure0 Tk rfl rfl rfl ?_
                refine go_pure0 Tk rfl rfl rfl ?_
                refine go_pure0 Tk rfl rfl rfl ?_
                refine go_nil ?_
                refine go_env [(1, _), (5, _), (6, _), (9, _), (10, _), (13, _), (14, _), (71, _), (72, _), (73, _), (74, _), (75, _), (76, _)] ⟨rfl, rfl, rfl, rfl, rfl, rfl, rfl, rfl, rfl, rfl, rfl, rfl, rfl, trivial⟩ ?_
                refine go_seq ?_
                refine go_region ?_
                refine go_pure0 Tk rfl rfl rfl ?_
                refine go_pure0 Tk rfl rfl rfl ?_
                refine go_pure0 Tk rfl rfl rfl ?_
                refine go_pure0 Tk rfl rfl rfl ?_
                refine go_pure0 Tk rfl rfl rfl ?_
                refine go_pure0 Tk rfl rfl rfl ?_
                refine go_re 129 (.bool false) (by show some (Value.bool (!(decide ((recent D).length < n) == decide (((((recent (D ++ [(l[m].q, l[m].v)])).map (·.1)).length : Nat) : Int) ≤ (n : Int))))) = _; rw [hb]; simp) ?_
                refine go_pure0 Tk rfl rfl rfl ?_
                refine go_pure0 Tk rfl rfl rfl ?_
                refine go_pure0 Tk rfl rfl rfl ?_
                refine go_known 132 rfl ?_ ?_
                · intro g7
                  (try simp only [decide_eq_true_eq, decide_eq_false_iff_not, Bool.not_eq_true', Bool.not_eq_false', Bool.not_eq_eq_eq_not, Bool.not_true, Bool.not_false, Int.not_lt, Int.not_le, beq_iff_eq, beq_eq_false_iff_ne, ne_eq] at g7)
                  refine go_pure0 Tk rfl rfl rfl ?_
                  refine go_pure0 Tk rfl rfl rfl ?_
                  refine go_pure0 Tk rfl rfl rfl ?_
                  refine go_val0 rfl (idx_val Tk rfl rfl rfl rfl rfl (by omega)) rfl ?_
                  refine go_pure0 Tk rfl rfl rfl ?_
                  refine go_val0 rfl (load_val Tk rfl rfl rfl (by first | exact at_pt (by repeat constructor) (by rfl) | exact at_cl 0 (by repeat constructor) (by rfl) | exact at_cl 1 (by repeat constructor) (by rfl) | exact at_cl 2 (by repeat constructor) (by rfl) | exact at_cl 3 (by repeat constructor) (by rfl) | exact at_cl 4 (by repeat constructor) (by rfl) | exact at_cl 5 (by repeat constructor) (by rfl) | exact at_cl 6 (by repeat constructor) (by rfl) | exact at_cl 7 (by repeat constructor) (by rfl)) (by rfl)) rfl ?_
                  refine go_pure0 Tk rfl rfl rfl ?_
                  refine go_re 139 (.bool false) (by show some (Value.bool (!decide ((if (recent D).length < n then l[m].v else 0) = l[m].v))) = _; rw [if_pos g7]; simp) ?_
                  refine go_pure0 Tk rfl rfl rfl ?_
                  refine go_pure0 Tk rfl rfl rfl ?_
                  refine go_nil ?_
                  refine go_env [(1, _), (5, _), (6, _), (9, _), (10, _), (71, _), (72, _), (73, _), (74, _), (75, _), (76, _), (131, _), (132, _), (133, _), (134, _), (135, _), (136, _), (137, _), (138, _), (139, _), (140, _), (141, _)] ⟨rfl, rfl, rfl, rfl, rfl, rfl, rfl, rfl, rfl, rfl, rfl, rfl, rfl, rfl, rfl, rfl, rfl, rfl, rfl, rfl, rfl, rfl, trivial⟩ ?_
                  refine go_cond_f rfl ?_
                  refine go_skip ?_
                  refine go_blk ?_
                  refine go_region ?_
                  refine go_pure0 Tk rfl rfl rfl ?_
                  refine go_pure0 Tk rfl rfl rfl ?_
                  refine go_pure0 Tk rfl rfl rfl ?_
                  refine go_nil ?_
                  refine go_i64 10 rfl (by omega) (by omega) ?_
                  refine go_back (m, D ++ [(l[m].q, l[m].v)], A2, c2) ⟨rfl, rfl, rfl, rfl, rfl, trivial⟩ (by repeat constructor) (by repeat constructor) ⟨by show m ≤ _; omega, by show P = _ ++ _; rw [hD, putsRev_next (by omega), if_neg (by simp [cl]), if_neg (by simp [ck])]; simp, by show (recent (D ++ _)).length ≤ l.length - m; rw [hrec]; simp; omega⟩ (by show m < m + 1; omega)
                · intro g7
                  (try simp only [decide_eq_true_eq, decide_eq_false_iff_not, Bool.not_eq_true', Bool.not_eq_false', Bool.not_eq_eq_eq_not, Bool.not_true, Bool.not_false, Int.not_lt, Int.not_le, beq_iff_eq, beq_eq_false_iff_ne, ne_eq] at g7)
                  refine go_skip0 rfl rfl ?_
                  refine go_skip0 rfl rfl ?_
                  refine go_skip0 rfl rfl ?_
                  refine go_skip0 rfl rfl ?_
                  refine go_skip0 rfl rfl ?_
                  refine go_skip0 rfl rfl ?_
                  refine go_skip0 rfl rfl ?_
                  refine go_pure0 Tk rfl rfl rfl ?_
                  refine go_pure0 Tk rfl rfl rfl ?_
                  refine go_nil ?_
                  refine go_env [(1, _), (5, _), (6, _), (9, _), (10, _), (71, _), (72, _), (73, _), (74, _), (75, _), (76, _), (131, _), (132, _), (133, _), (134, _), (135, _), (136, _), (137, _), (138, _), (139, _), (140, _), (141, _)] ⟨rfl, rfl, rfl, rfl, rfl, rfl, rfl, rfl, rfl, rfl, rfl, rfl, rfl, rfl, rfl, rfl, rfl, rfl, rfl, rfl, rfl, rfl, trivial⟩ ?_
                  refine go_cond_f rfl ?_
                  refine go_skip ?_
                  refine go_blk ?_
                  refine go_region ?_
                  refine go_pure0 Tk rfl rfl rfl ?_
                  refine go_pure0 Tk rfl rfl rfl ?_
                  refine go_pure0 Tk rfl rfl rfl ?_
                  refine go_nil ?_
                  refine go_i64 10 rfl (by omega) (by omega) ?_
                  refine go_back (m, D ++ [(l[m].q, l[m].v)], A2, c2) ⟨rfl, rfl, rfl, rfl, rfl, trivial⟩ (by repeat constructor) (by repeat constructor) ⟨by show m ≤ _; omega, by show P = _ ++ _; rw [hD, putsRev_next (by omega), if_neg (by simp [cl]), if_neg (by simp [ck])]; simp, by show (recent (D ++ _)).length ≤ l.length - m; rw [hrec]; simp; omega⟩ (by show m < m + 1; omega)
        · intro cl
          (try simp only [decide_eq_true_eq, decide_eq_false_iff_not, Bool.not_eq_true', Bool.not_eq_false', Bool.not_eq_eq_eq_not, Bool.not_true, Bool.not_false, Int.not_lt, Int.not_le, beq_iff_eq, beq_eq_false_iff_ne, ne_eq] at cl)
          obtain rfl : P = D := by rw [← hPP]; exact back_all (k := m + 1) (.inr ⟨by omega, by simpa using cl⟩) hk (by rw [hPP]; exact hD)
          refine go_exit rfl ?_
          refine go_seq ?_
          refine go_region ?_
          refine go_pure0 Tk rfl rfl rfl ?_
          refine go_call (cacheLen a n (held n P)) rfl rfl (by rfl) rfl (by repeat constructor) (by repeat constructor) (fun h => nomatch h) ?_
          rintro _ _ _ ⟨rfl, rfl, rfl⟩
          refine go_pure0 Tk rfl rfl rfl ?_
          refine go_pure0 Tk rfl rfl rfl ?_
          refine go_pure0 Tk rfl rfl rfl ?_
          refine go_val0 rfl (min_val rfl rfl rfl) rfl ?_
          refine go_pure0 Tk rfl rfl rfl ?_
          refine go_re 148 (.bool true) (by show some (Value.bool (decide (_ = _))) = _; rw [decide_eq_true]; rw [held_len]; simp only [List.length_map]; split <;> omega) ?_
          refine go_pure0 Tk rfl rfl rfl ?_
          refine go_call (cacheWorks) rfl rfl (by rfl) rfl (by repeat constructor) (by repeat constructor) (fun h => nomatch h) ?_
          rintro _ _ _ ⟨rfl, rfl, rfl⟩
          refine go_pure0 Tk rfl rfl rfl ?_
          refine go_pure0 Tk rfl rfl rfl ?_
          refine go_nil ?_
          refine go_env [(4, _)] ⟨rfl, trivial⟩ ?_
          refine go_ret _ _ (fun a w hp ho hf hs => res1 (by rfl) (.tmp rfl) a w hp ho hf hs) ⟨rfl, rfl, rfl⟩ (by repeat constructor) (by repeat constructor)
      · intro g1
        (try simp only [decide_eq_true_eq, decide_eq_false_iff_not, Bool.not_eq_true', Bool.not_eq_false', Bool.not_eq_eq_eq_not, Bool.not_true, Bool.not_false, Int.not_lt, Int.not_le, beq_iff_eq, beq_eq_false_iff_ne, ne_eq] at g1)
        obtain rfl : P = D := by rw [← hPP]; exact back_all (k := k) (.inl (by omega)) hk (by rw [hPP]; exact hD)
        refine go_skip0 rfl rfl ?_
        refine go_skip0 rfl rfl ?_
        refine go_skip0 rfl rfl ?_
        refine go_skip0 rfl rfl ?_
        refine go_skip0 rfl rfl ?_
        refine go_skip0 rfl rfl ?_
        refine go_pure0 Tk rfl rfl rfl ?_
        refine go_nil ?_
        refine go_env [(1, _), (5, _), (6, _), (9, _), (10, _), (71, _), (72, _), (73, _), (74, _), (75, _), (76, _), (77, _)] ⟨rfl, rfl, rfl, rfl, rfl, rfl, rfl, rfl, rfl, rfl, rfl, rfl, trivial⟩ ?_
        refine go_cond_f rfl ?_
        refine go_exit rfl ?_
        refine go_seq ?_
        refine go_region ?_
        refine go_pure0 Tk rfl rfl rfl ?_
        refine go_call (cacheLen a n (held n P)) rfl rfl (by rfl) rfl (by repeat constructor) (by repeat constructor) (fun h => nomatch h) ?_
        rintro _ _ _ ⟨rfl, rfl, rfl⟩
        refine go_pure0 Tk rfl rfl rfl ?_
        refine go_pure0 Tk rfl rfl rfl ?_
        refine go_pure0 Tk rfl rfl rfl ?_
        refine go_val0 rfl (min_val rfl rfl rfl) rfl ?_
        refine go_pure0 Tk rfl rfl rfl ?_
        refine go_re 148 (.bool true) (by show some (Value.bool (decide (_ = _))) = _; rw [decide_eq_true]; rw [held_len]; simp only [List.length_map]; split <;> omega) ?_
        refine go_pure0 Tk rfl rfl rfl ?_
        refine go_call (cacheWorks) rfl rfl (by rfl) rfl (by repeat constructor) (by repeat constructor) (fun h => nomatch h) ?_
        rintro _ _ _ ⟨rfl, rfl, rfl⟩
        refine go_pure0 Tk rfl rfl rfl ?_
        refine go_pure0 Tk rfl rfl rfl ?_
        refine go_nil ?_
        refine go_env [(4, _)] ⟨rfl, trivial⟩ ?_
        refine go_ret _ _ (fun a w hp ho hf hs => res1 (by rfl) (.tmp rfl) a w hp ho hf hs) ⟨rfl, rfl, rfl⟩ (by repeat constructor) (by repeat constructor)

end Go.Proofs.Ytdkfpgdfjnaciaa.SL
