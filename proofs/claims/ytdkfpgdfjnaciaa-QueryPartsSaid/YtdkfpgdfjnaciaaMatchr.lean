/- Contracts of functions of the program (Matchr): what each call comes to, for the laws' proofs. -/
import Derived.Test.YtdkfpgdfjnaciaaMatcht
set_option linter.unusedVariables false
set_option linter.unusedSimpArgs false
namespace Go.Proofs.Ytdkfpgdfjnaciaa.SL
open Go 

set_option maxHeartbeats 2000000 in
set_option maxRecDepth 20000 in
theorem refMatch (a : Am) (AA : Option Addr) (ac : Nat) (f : Fa) (FA : Option Addr) (fc : Nat) :
    Spec Try.prog 62 #[.agg #[.int .u32 a.p, .slice AA a.a.length ac], .agg #[.int .u32 f.p, .slice FA f.a.length fc]] [sl tTm AA ac a.a, sl tU FA fc f.a] [] (fun v Ps' Os' => v = .bool (mtch a f) ∧ Ps' = [] ∧ Os' = []) := by
  refine spec_of (fn := Try.f62) (args := [.agg #[.int .u32 a.p, .slice AA a.a.length ac], .agg #[.int .u32 f.p, .slice FA f.a.length fc]]) 86 Try.func62 rfl (by kernel_rfl) Try.ntmps62 (Nat.le_of_ble_eq_true rfl) (fun w0 hp0 hf0 => ?_)
  refine go_seq ?_
  refine go_region rfl ?_
  refine go_box Tk rfl rfl rfl rfl (by rfl) rfl rfl (fun h => nomatch h) ?_
  intro b1
  refine go_box Tk rfl rfl rfl rfl (by rfl) rfl rfl (fun h => nomatch h) ?_
  intro b2
  refine go_pure0 Tk rfl rfl rfl ?_
  refine go_nil ?_
  refine go_env [(2, _), (3, _)] ⟨rfl, rfl, trivial⟩ ?_
  refine go_seq ?_
  refine go_seq ?_
  refine go_len (xs := a.a) (by repeat constructor) (fun la ma => ?_)
  refine go_len (xs := f.a) (by repeat constructor) (fun lf mf => ?_)
  refine go_region rfl ?_
  refine go_pure0 Tk rfl rfl rfl ?_
  refine go_val0 rfl (load_val Tk rfl rfl rfl (by first | exact at_pt (by repeat constructor) (by rfl) | exact at_cl 0 (by repeat constructor) (by rfl) | exact at_cl 1 (by repeat constructor) (by rfl) | exact at_cl 2 (by repeat constructor) (by rfl) | exact at_cl 3 (by repeat constructor) (by rfl) | exact at_cl 4 (by repeat constructor) (by rfl) | exact at_cl 5 (by repeat constructor) (by rfl) | exact at_cl 6 (by repeat constructor) (by rfl) | exact at_cl 7 (by repeat constructor) (by rfl)) (by rfl)) rfl ?_
  refine go_pure0 Tk rfl rfl rfl ?_
  refine go_val0 rfl (load_val Tk rfl rfl rfl (by first | exact at_pt (by repeat constructor) (by rfl) | exact at_cl 0 (by repeat constructor) (by rfl) | exact at_cl 1 (by repeat constructor) (by rfl) | exact at_cl 2 (by repeat constructor) (by rfl) | exact at_cl 3 (by repeat constructor) (by rfl) | exact at_cl 4 (by repeat constructor) (by rfl) | exact at_cl 5 (by repeat constructor) (by rfl) | exact at_cl 6 (by repeat constructor) (by rfl) | exact at_cl 7 (by repeat constructor) (by rfl)) (by rfl)) rfl ?_
  refine go_pure0 Tk rfl rfl rfl ?_
  refine go_pure0 Tk rfl rfl rfl ?_
  refine go_known 12 rfl ?_ ?_
  · intro g1
    (try simp only [decide_eq_true_eq, decide_eq_false_iff_not, Bool.not_eq_true', Bool.not_eq_false', Bool.not_eq_eq_eq_not, Bool.not_true, Bool.not_false, Int.not_lt, Int.not_le, beq_iff_eq, beq_eq_false_iff_ne, ne_eq] at g1)
    refine go_skip0 rfl rfl ?_
    refine go_skip0 rfl rfl ?_
    refine go_skip0 rfl rfl ?_
    refine go_skip0 rfl rfl ?_
    refine go_skip0 rfl rfl ?_
    refine go_skip0 rfl rfl ?_
    refine go_skip0 rfl rfl ?_
    refine go_pure0 Tk rfl rfl rfl ?_
    refine go_nil ?_
    refine go_env [(2, _), (3, _), (20, _)] ⟨rfl, rfl, rfl, trivial⟩ ?_
    refine go_cond_t rfl ?_
    refine go_seq ?_
    refine go_region rfl ?_
    refine go_pure0 Tk rfl rfl rfl ?_
    refine go_nil ?_
    refine go_env [(4, _)] ⟨rfl, trivial⟩ ?_
    refine go_ret ⟨rfl, rfl⟩ _ _ (fun a w hp ho hf hs => res1 (by rfl) (.tmp rfl) a w hp ho hf hs) ⟨by rw [mtch_no (fun h _ => g1 h)], rfl, rfl⟩ (by repeat constructor) (by repeat constructor)
  · intro g1
    (try simp only [decide_eq_true_eq, decide_eq_false_iff_not, Bool.not_eq_true', Bool.not_eq_false', Bool.not_eq_eq_eq_not, Bool.not_true, Bool.not_false, Int.not_lt, Int.not_le, beq_iff_eq, beq_eq_false_iff_ne, ne_eq] at g1)
    refine go_pure0 Tk rfl rfl rfl ?_
    refine go_val0 rfl (load_val Tk rfl rfl rfl (by first | exact at_pt (by repeat constructor) (by rfl) | exact at_cl 0 (by repeat constructor) (by rfl) | exact at_cl 1 (by repeat constructor) (by rfl) | exact at_cl 2 (by repeat constructor) (by rfl) | exact at_cl 3 (by repeat constructor) (by rfl) | exact at_cl 4 (by repeat constructor) (by rfl) | exact at_cl 5 (by repeat constructor) (by rfl) | exact at_cl 6 (by repeat constructor) (by rfl) | exact at_cl 7 (by repeat constructor) (by rfl)) (by rfl)) rfl ?_
    refine go_pure0 Tk rfl rfl rfl ?_
    refine go_pure0 Tk rfl rfl rfl ?_
    refine go_val0 rfl (load_val Tk rfl rfl rfl (by first | exact at_pt (by repeat constructor) (by rfl) | exact at_cl 0 (by repeat constructor) (by rfl) | exact at_cl 1 (by repeat constructor) (by rfl) | exact at_cl 2 (by repeat constructor) (by rfl) | exact at_cl 3 (by repeat constructor) (by rfl) | exact at_cl 4 (by repeat constructor) (by rfl) | exact at_cl 5 (by repeat constructor) (by rfl) | exact at_cl 6 (by repeat constructor) (by rfl) | exact at_cl 7 (by repeat constructor) (by rfl)) (by rfl)) rfl ?_
    refine go_pure0 Tk rfl rfl rfl ?_
    refine go_pure0 Tk rfl rfl rfl ?_
    refine go_pure0 Tk rfl rfl rfl ?_
    refine go_nil ?_
    refine go_env [(2, _), (3, _), (20, _)] ⟨rfl, rfl, rfl, trivial⟩ ?_
    refine go_cond rfl ?_ ?_
    · intro g2
      (try simp only [decide_eq_true_eq, decide_eq_false_iff_not, Bool.not_eq_true', Bool.not_eq_false', Bool.not_eq_eq_eq_not, Bool.not_true, Bool.not_false, Int.not_lt, Int.not_le, beq_iff_eq, beq_eq_false_iff_ne, ne_eq] at g2)
      refine go_seq ?_
      refine go_region rfl ?_
      refine go_pure0 Tk rfl rfl rfl ?_
      refine go_nil ?_
      refine go_env [(4, _)] ⟨rfl, trivial⟩ ?_
      refine go_ret ⟨rfl, rfl⟩ _ _ (fun a w hp ho hf hs => res1 (by rfl) (.tmp rfl) a w hp ho hf hs) ⟨by rw [mtch_no (fun _ h => g2 (by exact_mod_cast h))], rfl, rfl⟩ (by repeat constructor) (by repeat constructor)
    · intro g2
      (try simp only [decide_eq_true_eq, decide_eq_false_iff_not, Bool.not_eq_true', Bool.not_eq_false', Bool.not_eq_eq_eq_not, Bool.not_true, Bool.not_false, Int.not_lt, Int.not_le, beq_iff_eq, beq_eq_false_iff_ne, ne_eq] at g2)
      refine go_skip ?_
      refine go_seq ?_
      refine go_seq ?_
      have hl : a.a.length = f.a.length := by omega
      refine go_region rfl ?_
      refine go_pure0 Tk rfl rfl rfl ?_
      refine go_nil ?_
      refine go_env [(2, _), (3, _), (5, _)] ⟨rfl, rfl, rfl, trivial⟩ ?_
      refine go_block ?_
      refine go_loop' (X := Nat) (fun i => [(5, .int .i64 (i : Int))]) [(2, _), (3, _)] (fun _ => []) (fun i => i ≤ f.a.length ∧ pairs a.a f.a i) (fun i => f.a.length - i) (0) ⟨rfl, rfl, rfl, trivial⟩ (by repeat constructor) ⟨by omega, fun k t n hk => by omega⟩ ?_
      intro i ⟨hi, hp⟩
      refine go_seq ?_
      refine go_seq ?_
      refine go_region rfl ?_
      refine go_pure0 Tk rfl rfl rfl ?_
      refine go_pure0 Tk rfl rfl rfl ?_
      refine go_val0 rfl (load_val Tk rfl rfl rfl (by first | exact at_pt (by repeat constructor) (by rfl) | exact at_cl 0 (by repeat constructor) (by rfl) | exact at_cl 1 (by repeat constructor) (by rfl) | exact at_cl 2 (by repeat constructor) (by rfl) | exact at_cl 3 (by repeat constructor) (by rfl) | exact at_cl 4 (by repeat constructor) (by rfl) | exact at_cl 5 (by repeat constructor) (by rfl) | exact at_cl 6 (by repeat constructor) (by rfl) | exact at_cl 7 (by repeat constructor) (by rfl)) (by rfl)) rfl ?_
      refine go_pure0 Tk rfl rfl rfl ?_
      refine go_pure0 Tk rfl rfl rfl ?_
      refine go_nil ?_
      refine go_env [(2, _), (3, _), (5, _), (25, _)] ⟨rfl, rfl, rfl, rfl, trivial⟩ ?_
      refine go_condD rfl ?_ ?_
      · intro c1
        refine go_skip ?_
        refine go_seq ?_
        refine go_block ?_
        refine go_seq ?_
        refine go_seq ?_
        refine go_elem_tm (xs := a.a) (by repeat constructor) (i) (List.getElem?_eq_getElem (by omega)) (fun b5 o5 hA => ?_); cases hA
        refine go_elem_int (xs := f.a) (by repeat constructor) (i) (List.getElem?_eq_getElem (by omega)) (fun b6 o6 hA => ?_); cases hA
        refine go_draw'  [1, 5, 9, 13, 15, 18] (SL.pre [(1, 0), (1, 2), (2, 1), (1, 3), (1, 4), (2, 5), (1, 6), (1, 7), (1, 8), (1, 10), (1, 14), (1, 16), (2, 9), (1, 11), (1, 12), (2, 13), (2, 15), (1, 17), (2, 18), (1, 19), (1, 20)] .nil) mixed rfl (by kernel_rfl) ?_
        refine go_pure1 Tk rfl rfl rfl ?_
        refine go_pure1 Tk rfl rfl rfl ?_
        refine go_val2 rfl (load_val Tk rfl rfl rfl (by first | exact at_pt (by repeat constructor) (by rfl) | exact at_cl 0 (by repeat constructor) (by rfl) | exact at_cl 1 (by repeat constructor) (by rfl) | exact at_cl 2 (by repeat constructor) (by rfl) | exact at_cl 3 (by repeat constructor) (by rfl) | exact at_cl 4 (by repeat constructor) (by rfl) | exact at_cl 5 (by repeat constructor) (by rfl) | exact at_cl 6 (by repeat constructor) (by rfl) | exact at_cl 7 (by repeat constructor) (by rfl)) (by rfl)) (by repeat constructor) (by repeat constructor) rfl ?_
        refine go_val1 rfl (idx_val Tk rfl rfl rfl rfl rfl (by omega)) rfl ?_
        refine go_pure1 Tk rfl rfl rfl ?_
        refine go_val2 rfl (load_val Tk rfl rfl rfl (by first | exact at_pt (by repeat constructor) (by rfl) | exact at_cl 0 (by repeat constructor) (by rfl) | exact at_cl 1 (by repeat constructor) (by rfl) | exact at_cl 2 (by repeat constructor) (by rfl) | exact at_cl 3 (by repeat constructor) (by rfl) | exact at_cl 4 (by repeat constructor) (by rfl) | exact at_cl 5 (by repeat constructor) (by rfl) | exact at_cl 6 (by repeat constructor) (by rfl) | exact at_cl 7 (by repeat constructor) (by rfl)) (by rfl)) (by repeat constructor) (by repeat constructor) rfl ?_
        refine go_pure1 Tk rfl rfl rfl ?_
        refine go_pure1 Tk rfl rfl rfl ?_
        refine go_known 35 rfl ?_ ?_
        · intro hv
          (try simp only [decide_eq_true_eq, decide_eq_false_iff_not, Bool.not_eq_true', Bool.not_eq_false', Bool.not_eq_eq_eq_not, Bool.not_true, Bool.not_false, Int.not_lt, Int.not_le, beq_iff_eq, beq_eq_false_iff_ne, ne_eq] at hv)
          refine go_pure1 Tk rfl rfl rfl ?_
          refine go_pure1 Tk rfl rfl rfl ?_
          refine go_pure1 Tk rfl rfl rfl ?_
          refine go_pure1 Tk rfl rfl rfl ?_
          refine go_val2 rfl (load_val Tk rfl rfl rfl (by first | exact at_pt (by repeat constructor) (by rfl) | exact at_cl 0 (by repeat constructor) (by rfl) | exact at_cl 1 (by repeat constructor) (by rfl) | exact at_cl 2 (by repeat constructor) (by rfl) | exact at_cl 3 (by repeat constructor) (by rfl) | exact at_cl 4 (by repeat constructor) (by rfl) | exact at_cl 5 (by repeat constructor) (by rfl) | exact at_cl 6 (by repeat constructor) (by rfl) | exact at_cl 7 (by repeat constructor) (by rfl)) (by rfl)) (by repeat constructor) (by repeat constructor) rfl ?_
          refine go_val1 rfl (idx_val Tk rfl rfl rfl rfl rfl (by omega)) rfl ?_
          refine go_pure1 Tk rfl rfl rfl ?_
          refine go_val2 rfl (load_val Tk rfl rfl rfl (by first | exact at_pt (by repeat constructor) (by rfl) | exact at_cl 0 (by repeat constructor) (by rfl) | exact at_cl 1 (by repeat constructor) (by rfl) | exact at_cl 2 (by repeat constructor) (by rfl) | exact at_cl 3 (by repeat constructor) (by rfl) | exact at_cl 4 (by repeat constructor) (by rfl) | exact at_cl 5 (by repeat constructor) (by rfl) | exact at_cl 6 (by repeat constructor) (by rfl) | exact at_cl 7 (by repeat constructor) (by rfl)) (by rfl)) (by repeat constructor) (by repeat constructor) rfl ?_
          refine go_val2 rfl (load_val Tk rfl rfl rfl (by first | exact at_pt (by repeat constructor) (by rfl) | exact at_cl 0 (by repeat constructor) (by rfl) | exact at_cl 1 (by repeat constructor) (by rfl) | exact at_cl 2 (by repeat constructor) (by rfl) | exact at_cl 3 (by repeat constructor) (by rfl) | exact at_cl 4 (by repeat constructor) (by rfl) | exact at_cl 5 (by repeat constructor) (by rfl) | exact at_cl 6 (by repeat constructor) (by rfl) | exact at_cl 7 (by repeat constructor) (by rfl)) (by rfl)) (by repeat constructor) (by repeat constructor) rfl ?_
          refine go_val1 rfl (idx_val Tk rfl rfl rfl rfl rfl (by omega)) rfl ?_
          refine go_val2 rfl (load_val Tk rfl rfl rfl (by first | exact at_pt (by repeat constructor) (by rfl) | exact at_cl 0 (by repeat constructor) (by rfl) | exact at_cl 1 (by repeat constructor) (by rfl) | exact at_cl 2 (by repeat constructor) (by rfl) | exact at_cl 3 (by repeat constructor) (by rfl) | exact at_cl 4 (by repeat constructor) (by rfl) | exact at_cl 5 (by repeat constructor) (by rfl) | exact at_cl 6 (by repeat constructor) (by rfl) | exact at_cl 7 (by repeat constructor) (by rfl)) (by rfl)) (by repeat constructor) (by repeat constructor) rfl ?_
          refine go_pure1 Tk rfl rfl rfl ?_
          refine go_pure1 Tk rfl rfl rfl ?_
          refine go_nil ?_
          refine go_env [(2, _), (3, _), (5, _), (36, _), (37, _), (38, _), (39, _), (40, _), (41, _), (42, _), (43, _), (44, _), (45, _), (46, _), (47, _), (48, _)] ⟨rfl, rfl, rfl, rfl, rfl, rfl, rfl, rfl, rfl, rfl, rfl, rfl, rfl, rfl, rfl, rfl, trivial⟩ ?_
          refine go_cond rfl ?_ ?_
          · intro h1
            (try simp only [decide_eq_true_eq, decide_eq_false_iff_not, Bool.not_eq_true', Bool.not_eq_false', Bool.not_eq_eq_eq_not, Bool.not_true, Bool.not_false, Int.not_lt, Int.not_le, beq_iff_eq, beq_eq_false_iff_ne, ne_eq] at h1)
            refine go_seq ?_
            refine go_region rfl ?_
            refine go_pure0 Tk rfl rfl rfl ?_
            refine go_nil ?_
            refine go_env [(4, _)] ⟨rfl, trivial⟩ ?_
            refine go_ret ⟨rfl, rfl⟩ _ _ (fun a w hp ho hf hs => res1 (by rfl) (.tmp rfl) a w hp ho hf hs) ⟨by first | rw [mtch_sym_no (a := a) (f := f) (i := i) (by omega) (by omega) hv h1] | rw [mtch_pair_no (a := a) (f := f) (i := i) (j := j) (by omega) (by omega) (by omega) h2 (by simpa using h3) h4] | rw [mtch_pairs g1 hl (by rw [show a.a.length = i by omega]; exact hp)], rfl, rfl⟩ (by repeat constructor) (by repeat constructor)
          · intro h1
            (try simp only [decide_eq_true_eq, decide_eq_false_iff_not, Bool.not_eq_true', Bool.not_eq_false', Bool.not_eq_eq_eq_not, Bool.not_true, Bool.not_false, Int.not_lt, Int.not_le, beq_iff_eq, beq_eq_false_iff_ne, ne_eq] at h1)
            refine go_skip ?_
            refine go_seq ?_
            have hs : a.a[i].v = false → a.a[i].n = f.a[i] := by intro h; first | exact h1 | (exfalso; simp_all)
            refine go_region rfl ?_
            refine go_pure0 Tk rfl rfl rfl ?_
            refine go_nil ?_
            refine go_env [(2, _), (3, _), (5, _), (6, _), (36, _), (37, _), (38, _), (39, _), (40, _), (41, _), (42, _), (43, _), (44, _), (45, _), (46, _), (47, _)] ⟨rfl, rfl, rfl, rfl, rfl, rfl, rfl, rfl, rfl, rfl, rfl, rfl, rfl, rfl, rfl, rfl, trivial⟩ ?_
            refine go_block ?_
            refine go_loop' (X := Nat) (fun j => [(6, .int .i64 (j : Int))]) [(2, _), (3, _), (5, _), (36, _), (37, _), (38, _), (39, _), (40, _), (41, _), (42, _), (43, _), (44, _), (45, _), (46, _), (47, _)] (fun _ => []) (fun j => j ≤ i ∧ ∀ k (hk : k < j) (hki : k < i), a.a[i].v = true → a.a[i] = a.a[k] → f.a[k] = f.a[i]) (fun j => i - j) (0) ⟨rfl, rfl, rfl, rfl, rfl, rfl, rfl, rfl, rfl, rfl, rfl, rfl, rfl, rfl, rfl, rfl, trivial⟩ (by repeat constructor) ⟨by omega, fun k hk => by omega⟩ ?_
            intro j ⟨hj, hq⟩
            refine go_seq ?_
            refine go_seq ?_
            refine go_region rfl ?_
            refine go_pure0 Tk rfl rfl rfl ?_
            refine go_pure0 Tk rfl rfl rfl ?_
            refine go_pure0 Tk rfl rfl rfl ?_
            refine go_nil ?_
            refine go_env [(2, _), (3, _), (5, _), (6, _), (36, _), (37, _), (38, _), (39, _), (40, _), (41, _), (42, _), (43, _), (44, _), (45, _), (46, _), (47, _), (51, _)] ⟨rfl, rfl, rfl, rfl, rfl, rfl, rfl, rfl, rfl, rfl, rfl, rfl, rfl, rfl, rfl, rfl, rfl, trivial⟩ ?_
            refine go_condD rfl ?_ ?_
            · intro c2
              refine go_skip ?_
              refine go_seq ?_
              refine go_block ?_
              refine go_seq ?_
              refine go_elem_tm (xs := a.a) (by repeat constructor) (i) (List.getElem?_eq_getElem (by omega)) (fun b7 o7 hA => ?_); cases hA
              refine go_elem_tm (xs := a.a) (by repeat constructor) (j) (List.getElem?_eq_getElem (by omega)) (fun b8 o8 hA => ?_); cases hA
              refine go_elem_int (xs := f.a) (by repeat constructor) (i) (List.getElem?_eq_getElem (by omega)) (fun b9 o9 hA => ?_); cases hA
              refine go_elem_int (xs := f.a) (by repeat constructor) (j) (List.getElem?_eq_getElem (by omega)) (fun b10 o10 hA => ?_); cases hA
              refine go_draw'  [1, 5, 8, 11, 13, 16, 21, 24, 26, 29] (SL.pre [(1, 0), (1, 2), (2, 1), (1, 3), (1, 4), (2, 5), (1, 6), (1, 7), (1, 9), (1, 12), (1, 14), (2, 8), (1, 10), (2, 11), (2, 13), (1, 15), (2, 16), (1, 17), (1, 18), (1, 19), (1, 20), (1, 22), (1, 25), (1, 27), (2, 21), (1, 23), (2, 24), (2, 26), (1, 28), (2, 29), (1, 30), (1, 31)] .nil) mixed rfl (by kernel_rfl) ?_
              refine go_pure1 Tk rfl rfl rfl ?_
              refine go_pure1 Tk rfl rfl rfl ?_
              refine go_val2 rfl (load_val Tk rfl rfl rfl (by first | exact at_pt (by repeat constructor) (by rfl) | exact at_cl 0 (by repeat constructor) (by rfl) | exact at_cl 1 (by repeat constructor) (by rfl) | exact at_cl 2 (by repeat constructor) (by rfl) | exact at_cl 3 (by repeat constructor) (by rfl) | exact at_cl 4 (by repeat constructor) (by rfl) | exact at_cl 5 (by repeat constructor) (by rfl) | exact at_cl 6 (by repeat constructor) (by rfl) | exact at_cl 7 (by repeat constructor) (by rfl)) (by rfl)) (by repeat constructor) (by repeat constructor) rfl ?_
              refine go_val1 rfl (idx_val Tk rfl rfl rfl rfl rfl (by omega)) rfl ?_
              refine go_pure1 Tk rfl rfl rfl ?_
              refine go_val2 rfl (load_val Tk rfl rfl rfl (by first | exact at_pt (by repeat constructor) (by rfl) | exact at_cl 0 (by repeat constructor) (by rfl) | exact at_cl 1 (by repeat constructor) (by rfl) | exact at_cl 2 (by repeat constructor) (by rfl) | exact at_cl 3 (by repeat constructor) (by rfl) | exact at_cl 4 (by repeat constructor) (by rfl) | exact at_cl 5 (by repeat constructor) (by rfl) | exact at_cl 6 (by repeat constructor) (by rfl) | exact at_cl 7 (by repeat constructor) (by rfl)) (by rfl)) (by repeat constructor) (by repeat constructor) rfl ?_
              refine go_pure1 Tk rfl rfl rfl ?_
              refine go_known 60 rfl ?_ ?_
              · intro h2
                (try simp only [decide_eq_true_eq, decide_eq_false_iff_not, Bool.not_eq_true', Bool.not_eq_false', Bool.not_eq_eq_eq_not, Bool.not_true, Bool.not_false, Int.not_lt, Int.not_le, beq_iff_eq, beq_eq_false_iff_ne, ne_eq] at h2)
                refine go_pure1 Tk rfl rfl rfl ?_
                refine go_pure1 Tk rfl rfl rfl ?_
                refine go_pure1 Tk rfl rfl rfl ?_
                refine go_pure1 Tk rfl rfl rfl ?_
                refine go_val2 rfl (load_val Tk rfl rfl rfl (by first | exact at_pt (by repeat constructor) (by rfl) | exact at_cl 0 (by repeat constructor) (by rfl) | exact at_cl 1 (by repeat constructor) (by rfl) | exact at_cl 2 (by repeat constructor) (by rfl) | exact at_cl 3 (by repeat constructor) (by rfl) | exact at_cl 4 (by repeat constructor) (by rfl) | exact at_cl 5 (by repeat constructor) (by rfl) | exact at_cl 6 (by repeat constructor) (by rfl) | exact at_cl 7 (by repeat constructor) (by rfl)) (by rfl)) (by repeat constructor) (by repeat constructor) rfl ?_
                refine go_val1 rfl (idx_val Tk rfl rfl rfl rfl rfl (by omega)) rfl ?_
                refine go_val2 rfl (load_val Tk rfl rfl rfl (by first | exact at_pt (by repeat constructor) (by rfl) | exact at_cl 0 (by repeat constructor) (by rfl) | exact at_cl 1 (by repeat constructor) (by rfl) | exact at_cl 2 (by repeat constructor) (by rfl) | exact at_cl 3 (by repeat constructor) (by rfl) | exact at_cl 4 (by repeat constructor) (by rfl) | exact at_cl 5 (by repeat constructor) (by rfl) | exact at_cl 6 (by repeat constructor) (by rfl) | exact at_cl 7 (by repeat constructor) (by rfl)) (by rfl)) (by repeat constructor) (by repeat constructor) rfl ?_
                refine go_val2 rfl (load_val Tk rfl rfl rfl (by first | exact at_pt (by repeat constructor) (by rfl) | exact at_cl 0 (by repeat constructor) (by rfl) | exact at_cl 1 (by repeat constructor) (by rfl) | exact at_cl 2 (by repeat constructor) (by rfl) | exact at_cl 3 (by repeat constructor) (by rfl) | exact at_cl 4 (by repeat constructor) (by rfl) | exact at_cl 5 (by repeat constructor) (by rfl) | exact at_cl 6 (by repeat constructor) (by rfl) | exact at_cl 7 (by repeat constructor) (by rfl)) (by rfl)) (by repeat constructor) (by repeat constructor) rfl ?_
                refine go_val1 rfl (idx_val Tk rfl rfl rfl rfl rfl (by omega)) rfl ?_
                refine go_val2 rfl (load_val Tk rfl rfl rfl (by first | exact at_pt (by repeat constructor) (by rfl) | exact at_cl 0 (by repeat constructor) (by rfl) | exact at_cl 1 (by repeat constructor) (by rfl) | exact at_cl 2 (by repeat constructor) (by rfl) | exact at_cl 3 (by repeat constructor) (by rfl) | exact at_cl 4 (by repeat constructor) (by rfl) | exact at_cl 5 (by repeat constructor) (by rfl) | exact at_cl 6 (by repeat constructor) (by rfl) | exact at_cl 7 (by repeat constructor) (by rfl)) (by rfl)) (by repeat constructor) (by repeat constructor) rfl ?_
                refine go_val1 rfl (seq_val Tk rfl rfl rfl rfl (by rfl) rfl (by kernel_rfl) (by kernel_rfl)) rfl ?_
                refine go_re 71 (.bool (decide (a.a[i] = a.a[j]))) (by show some (Value.bool _) = _; rw [tm_eq]) ?_
                refine go_pure1 Tk rfl rfl rfl ?_
                refine go_pure1 Tk rfl rfl rfl ?_
                refine go_known 73 rfl ?_ ?_
                · intro h3
                  (try simp only [decide_eq_true_eq, decide_eq_false_iff_not, Bool.not_eq_true', Bool.not_eq_false', Bool.not_eq_eq_eq_not, Bool.not_true, Bool.not_false, Int.not_lt, Int.not_le, beq_iff_eq, beq_eq_false_iff_ne, ne_eq] at h3)
                  refine go_pure1 Tk rfl rfl rfl ?_
                  refine go_pure1 Tk rfl rfl rfl ?_
                  refine go_pure1 Tk rfl rfl rfl ?_
                  refine go_pure1 Tk rfl rfl rfl ?_
                  refine go_val2 rfl (load_val Tk rfl rfl rfl (by first | exact at_pt (by repeat constructor) (by rfl) | exact at_cl 0 (by repeat constructor) (by rfl) | exact at_cl 1 (by repeat constructor) (by rfl) | exact at_cl 2 (by repeat constructor) (by rfl) | exact at_cl 3 (by repeat constructor) (by rfl) | exact at_cl 4 (by repeat constructor) (by rfl) | exact at_cl 5 (by repeat constructor) (by rfl) | exact at_cl 6 (by repeat constructor) (by rfl) | exact at_cl 7 (by repeat constructor) (by rfl)) (by rfl)) (by repeat constructor) (by repeat constructor) rfl ?_
                  refine go_val1 rfl (idx_val Tk rfl rfl rfl rfl rfl (by omega)) rfl ?_
                  refine go_val2 rfl (load_val Tk rfl rfl rfl (by first | exact at_pt (by repeat constructor) (by rfl) | exact at_cl 0 (by repeat constructor) (by rfl) | exact at_cl 1 (by repeat constructor) (by rfl) | exact at_cl 2 (by repeat constructor) (by rfl) | exact at_cl 3 (by repeat constructor) (by rfl) | exact at_cl 4 (by repeat constructor) (by rfl) | exact at_cl 5 (by repeat constructor) (by rfl) | exact at_cl 6 (by repeat constructor) (by rfl) | exact at_cl 7 (by repeat constructor) (by rfl)) (by rfl)) (by repeat constructor) (by repeat constructor) rfl ?_
                  refine go_val2 rfl (load_val Tk rfl rfl rfl (by first | exact at_pt (by repeat constructor) (by rfl) | exact at_cl 0 (by repeat constructor) (by rfl) | exact at_cl 1 (by repeat constructor) (by rfl) | exact at_cl 2 (by repeat constructor) (by rfl) | exact at_cl 3 (by repeat constructor) (by rfl) | exact at_cl 4 (by repeat constructor) (by rfl) | exact at_cl 5 (by repeat constructor) (by rfl) | exact at_cl 6 (by repeat constructor) (by rfl) | exact at_cl 7 (by repeat constructor) (by rfl)) (by rfl)) (by repeat constructor) (by repeat constructor) rfl ?_
                  refine go_val1 rfl (idx_val Tk rfl rfl rfl rfl rfl (by omega)) rfl ?_
                  refine go_val2 rfl (load_val Tk rfl rfl rfl (by first | exact at_pt (by repeat constructor) (by rfl) | exact at_cl 0 (by repeat constructor) (by rfl) | exact at_cl 1 (by repeat constructor) (by rfl) | exact at_cl 2 (by repeat constructor) (by rfl) | exact at_cl 3 (by repeat constructor) (by rfl) | exact at_cl 4 (by repeat constructor) (by rfl) | exact at_cl 5 (by repeat constructor) (by rfl) | exact at_cl 6 (by repeat constructor) (by rfl) | exact at_cl 7 (by repeat constructor) (by rfl)) (by rfl)) (by repeat constructor) (by repeat constructor) rfl ?_
                  refine go_pure1 Tk rfl rfl rfl ?_
                  refine go_pure1 Tk rfl rfl rfl ?_
                  refine go_nil ?_
                  refine go_env [(2, _), (3, _), (5, _), (6, _), (36, _), (37, _), (38, _), (39, _), (40, _), (41, _), (42, _), (43, _), (44, _), (45, _), (46, _), (47, _), (61, _), (62, _), (63, _), (64, _), (65, _), (66, _), (67, _), (68, _), (69, _), (70, _), (71, _), (74, _), (75, _), (76, _), (77, _), (78, _), (79, _), (80, _), (81, _), (82, _), (83, _), (84, _), (85, _)] ⟨rfl, rfl, rfl, rfl, rfl, rfl, rfl, rfl, rfl, rfl, rfl, rfl, rfl, rfl, rfl, rfl, rfl, rfl, rfl, rfl, rfl, rfl, rfl, rfl, rfl, rfl, rfl, rfl, rfl, rfl, rfl, rfl, rfl, rfl, rfl, rfl, rfl, rfl, rfl, trivial⟩ ?_
                  refine go_cond rfl ?_ ?_
                  · intro h4
                    (try simp only [decide_eq_true_eq, decide_eq_false_iff_not, Bool.not_eq_true', Bool.not_eq_false', Bool.not_eq_eq_eq_not, Bool.not_true, Bool.not_false, Int.not_lt, Int.not_le, beq_iff_eq, beq_eq_false_iff_ne, ne_eq] at h4)
                    refine go_seq ?_
                    refine go_region rfl ?_
                    refine go_pure0 Tk rfl rfl rfl ?_
                    refine go_nil ?_
                    refine go_env [(4, _)] ⟨rfl, trivial⟩ ?_
                    refine go_ret ⟨rfl, rfl⟩ _ _ (fun a w hp ho hf hs => res1 (by rfl) (.tmp rfl) a w hp ho hf hs) ⟨by first | rw [mtch_sym_no (a := a) (f := f) (i := i) (by omega) (by omega) hv h1] | rw [mtch_pair_no (a := a) (f := f) (i := i) (j := j) (by omega) (by omega) (by omega) h2 (by simpa using h3) h4] | rw [mtch_pairs g1 hl (by rw [show a.a.length = i by omega]; exact hp)], rfl, rfl⟩ (by repeat constructor) (by repeat constructor)
                  · intro h4
                    (try simp only [decide_eq_true_eq, decide_eq_false_iff_not, Bool.not_eq_true', Bool.not_eq_false', Bool.not_eq_eq_eq_not, Bool.not_true, Bool.not_false, Int.not_lt, Int.not_le, beq_iff_eq, beq_eq_false_iff_ne, ne_eq] at h4)
                    refine go_skip ?_
                    refine go_blk ?_
                    refine go_region rfl ?_
                    refine go_pure0 Tk rfl rfl rfl ?_
                    refine go_pure0 Tk rfl rfl rfl ?_
                    refine go_pure0 Tk rfl rfl rfl ?_
                    refine go_nil ?_
                    refine go_i64 6 rfl (by omega) (by omega) ?_
                    refine go_back (j + 1) ⟨rfl, rfl, rfl, rfl, rfl, rfl, rfl, rfl, rfl, rfl, rfl, rfl, rfl, rfl, rfl, rfl, trivial⟩ (by repeat constructor) (by repeat constructor) ⟨by omega, fun k hk hki => by
                      rcases Nat.lt_or_ge k j with q | q
                      · exact hq k q hki
                      · obtain rfl : k = j := by omega
                        intro q1 q2; first | exact h4 | (exfalso; simp_all)⟩ (by omega)
                · intro h3
                  (try simp only [decide_eq_true_eq, decide_eq_false_iff_not, Bool.not_eq_true', Bool.not_eq_false', Bool.not_eq_eq_eq_not, Bool.not_true, Bool.not_false, Int.not_lt, Int.not_le, beq_iff_eq, beq_eq_false_iff_ne, ne_eq] at h3)
                  refine go_skip1 rfl rfl ?_
                  refine go_skip1 rfl rfl ?_
                  refine go_skip1 rfl rfl ?_
                  refine go_skip1 rfl rfl ?_
                  refine go_skip2 rfl (by repeat constructor) (by repeat constructor) rfl ?_
                  refine go_skip1 rfl rfl ?_
                  refine go_skip2 rfl (by repeat constructor) (by repeat constructor) rfl ?_
                  refine go_skip2 rfl (by repeat constructor) (by repeat constructor) rfl ?_
                  refine go_skip1 rfl rfl ?_
                  refine go_skip2 rfl (by repeat constructor) (by repeat constructor) rfl ?_
                  refine go_skip1 rfl rfl ?_
                  refine go_pure1 Tk rfl rfl rfl ?_
                  refine go_nil ?_
                  refine go_env [(2, _), (3, _), (5, _), (6, _), (36, _), (37, _), (38, _), (39, _), (40, _), (41, _), (42, _), (43, _), (44, _), (45, _), (46, _), (47, _), (61, _), (62, _), (63, _), (64, _), (65, _), (66, _), (67, _), (68, _), (69, _), (70, _), (71, _), (74, _), (75, _), (76, _), (77, _), (78, _), (79, _), (80, _), (81, _), (82, _), (83, _), (84, _), (85, _)] ⟨rfl, rfl, rfl, rfl, rfl, rfl, rfl, rfl, rfl, rfl, rfl, rfl, rfl, rfl, rfl, rfl, rfl, rfl, rfl, rfl, rfl, rfl, rfl, rfl, rfl, rfl, rfl, rfl, rfl, rfl, rfl, rfl, rfl, rfl, rfl, rfl, rfl, rfl, rfl, trivial⟩ ?_
                  refine go_cond_f rfl ?_
                  refine go_skip ?_
                  refine go_blk ?_
                  refine go_region rfl ?_
                  refine go_pure0 Tk rfl rfl rfl ?_
                  refine go_pure0 Tk rfl rfl rfl ?_
                  refine go_pure0 Tk rfl rfl rfl ?_
                  refine go_nil ?_
                  refine go_i64 6 rfl (by omega) (by omega) ?_
                  refine go_back (j + 1) ⟨rfl, rfl, rfl, rfl, rfl, rfl, rfl, rfl, rfl, rfl, rfl, rfl, rfl, rfl, rfl, rfl, trivial⟩ (by repeat constructor) (by repeat constructor) ⟨by omega, fun k hk hki => by
                    rcases Nat.lt_or_ge k j with q | q
                    · exact hq k q hki
                    · obtain rfl : k = j := by omega
                      intro q1 q2; first | exact h4 | (exfalso; simp_all)⟩ (by omega)
              · intro h2
                (try simp only [decide_eq_true_eq, decide_eq_false_iff_not, Bool.not_eq_true', Bool.not_eq_false', Bool.not_eq_eq_eq_not, Bool.not_true, Bool.not_false, Int.not_lt, Int.not_le, beq_iff_eq, beq_eq_false_iff_ne, ne_eq] at h2)
                refine go_skip1 rfl rfl ?_
                refine go_skip1 rfl rfl ?_
                refine go_skip1 rfl rfl ?_
                refine go_skip1 rfl rfl ?_
                refine go_skip2 rfl (by repeat constructor) (by repeat constructor) rfl ?_
                refine go_skip1 rfl rfl ?_
                refine go_skip2 rfl (by repeat constructor) (by repeat constructor) rfl ?_
                refine go_skip2 rfl (by repeat constructor) (by repeat constructor) rfl ?_
                refine go_skip1 rfl rfl ?_
                refine go_skip2 rfl (by repeat constructor) (by repeat constructor) rfl ?_
                refine go_skip1 rfl rfl ?_
                refine go_pure1 Tk rfl rfl rfl ?_
                refine go_pure1 Tk rfl rfl rfl ?_
                refine go_skip1 rfl rfl ?_
                refine go_skip1 rfl rfl ?_
                refine go_skip1 rfl rfl ?_
                refine go_skip1 rfl rfl ?_
                refine go_skip2 rfl (by repeat constructor) (by repeat constructor) rfl ?_
                refine go_skip1 rfl rfl ?_
                refine go_skip2 rfl (by repeat constructor) (by repeat constructor) rfl ?_
                refine go_skip2 rfl (by repeat constructor) (by repeat constructor) rfl ?_
                refine go_skip1 rfl rfl ?_
                refine go_skip2 rfl (by repeat constructor) (by repeat constructor) rfl ?_
                refine go_skip1 rfl rfl ?_
                refine go_pure1 Tk rfl rfl rfl ?_
                refine go_nil ?_
                refine go_env [(2, _), (3, _), (5, _), (6, _), (36, _), (37, _), (38, _), (39, _), (40, _), (41, _), (42, _), (43, _), (44, _), (45, _), (46, _), (47, _), (61, _), (62, _), (63, _), (64, _), (65, _), (66, _), (67, _), (68, _), (69, _), (70, _), (71, _), (74, _), (75, _), (76, _), (77, _), (78, _), (79, _), (80, _), (81, _), (82, _), (83, _), (84, _), (85, _)] ⟨rfl, rfl, rfl, rfl, rfl, rfl, rfl, rfl, rfl, rfl, rfl, rfl, rfl, rfl, rfl, rfl, rfl, rfl, rfl, rfl, rfl, rfl, rfl, rfl, rfl, rfl, rfl, rfl, rfl, rfl, rfl, rfl, rfl, rfl, rfl, rfl, rfl, rfl, rfl, trivial⟩ ?_
                refine go_cond_f rfl ?_
                refine go_skip ?_
                refine go_blk ?_
                refine go_region rfl ?_
                refine go_pure0 Tk rfl rfl rfl ?_
                refine go_pure0 Tk rfl rfl rfl ?_
                refine go_pure0 Tk rfl rfl rfl ?_
                refine go_nil ?_
                refine go_i64 6 rfl (by omega) (by omega) ?_
                refine go_back (j + 1) ⟨rfl, rfl, rfl, rfl, rfl, rfl, rfl, rfl, rfl, rfl, rfl, rfl, rfl, rfl, rfl, rfl, trivial⟩ (by repeat constructor) (by repeat constructor) ⟨by omega, fun k hk hki => by
                  rcases Nat.lt_or_ge k j with q | q
                  · exact hq k q hki
                  · obtain rfl : k = j := by omega
                    intro q1 q2; first | exact h4 | (exfalso; simp_all)⟩ (by omega)
            · intro c2
              refine go_exit rfl ?_
              refine go_blk ?_
              refine go_region rfl ?_
              refine go_pure0 Tk rfl rfl rfl ?_
              refine go_pure0 Tk rfl rfl rfl ?_
              refine go_pure0 Tk rfl rfl rfl ?_
              refine go_nil ?_
              refine go_i64 5 rfl (by omega) (by omega) ?_
              refine go_back (i + 1) ⟨rfl, rfl, rfl, trivial⟩ (by repeat constructor) (by repeat constructor) ⟨by omega, pairs_next hp (by omega) (by omega) hs (fun j hj => hq j (by omega) hj)⟩ (by omega)
        · intro hv
          (try simp only [decide_eq_true_eq, decide_eq_false_iff_not, Bool.not_eq_true', Bool.not_eq_false', Bool.not_eq_eq_eq_not, Bool.not_true, Bool.not_false, Int.not_lt, Int.not_le, beq_iff_eq, beq_eq_false_iff_ne, ne_eq] at hv)
          refine go_skip1 rfl rfl ?_
          refine go_skip1 rfl rfl ?_
          refine go_skip1 rfl rfl ?_
          refine go_skip1 rfl rfl ?_
          refine go_skip2 rfl (by repeat constructor) (by repeat constructor) rfl ?_
          refine go_skip1 rfl rfl ?_
          refine go_skip1 rfl rfl ?_
          refine go_skip2 rfl (by repeat constructor) (by repeat constructor) rfl ?_
          refine go_skip2 rfl (by repeat constructor) (by repeat constructor) rfl ?_
          refine go_skip1 rfl rfl ?_
          refine go_skip2 rfl (by repeat constructor) (by repeat constructor) rfl ?_
          refine go_skip1 rfl rfl ?_
          refine go_pure1 Tk rfl rfl rfl ?_
          refine go_nil ?_
          refine go_env [(2, _), (3, _), (5, _), (36, _), (37, _), (38, _), (39, _), (40, _), (41, _), (42, _), (43, _), (44, _), (45, _), (46, _), (47, _), (48, _)] ⟨rfl, rfl, rfl, rfl, rfl, rfl, rfl, rfl, rfl, rfl, rfl, rfl, rfl, rfl, rfl, rfl, trivial⟩ ?_
          refine go_cond_f rfl ?_
          refine go_skip ?_
          refine go_seq ?_
          have hs : a.a[i].v = false → a.a[i].n = f.a[i] := by intro h; first | exact h1 | (exfalso; simp_all)
          refine go_region rfl ?_
          refine go_pure0 Tk rfl rfl rfl ?_
          refine go_nil ?_
          refine go_env [(2, _), (3, _), (5, _), (6, _), (36, _), (37, _), (38, _), (39, _), (40, _), (41, _), (42, _), (43, _), (44, _), (45, _), (46, _), (47, _)] ⟨rfl, rfl, rfl, rfl, rfl, rfl, rfl, rfl, rfl, rfl, rfl, rfl, rfl, rfl, rfl, rfl, trivial⟩ ?_
          refine go_block ?_
          refine go_loop' (X := Nat) (fun j => [(6, .int .i64 (j : Int))]) [(2, _), (3, _), (5, _), (36, _), (37, _), (38, _), (39, _), (40, _), (41, _), (42, _), (43, _), (44, _), (45, _), (46, _), (47, _)] (fun _ => []) (fun j => j ≤ i ∧ ∀ k (hk : k < j) (hki : k < i), a.a[i].v = true → a.a[i] = a.a[k] → f.a[k] = f.a[i]) (fun j => i - j) (0) ⟨rfl, rfl, rfl, rfl, rfl, rfl, rfl, rfl, rfl, rfl, rfl, rfl, rfl, rfl, rfl, rfl, trivial⟩ (by repeat constructor) ⟨by omega, fun k hk => by omega⟩ ?_
          intro j ⟨hj, hq⟩
          refine go_seq ?_
          refine go_seq ?_
          refine go_region rfl ?_
          refine go_pure0 Tk rfl rfl rfl ?_
          refine go_pure0 Tk rfl rfl rfl ?_
          refine go_pure0 Tk rfl rfl rfl ?_
          refine go_nil ?_
          refine go_env [(2, _), (3, _), (5, _), (6, _), (36, _), (37, _), (38, _), (39, _), (40, _), (41, _), (42, _), (43, _), (44, _), (45, _), (46, _), (47, _), (51, _)] ⟨rfl, rfl, rfl, rfl, rfl, rfl, rfl, rfl, rfl, rfl, rfl, rfl, rfl, rfl, rfl, rfl, rfl, trivial⟩ ?_
          refine go_condD rfl ?_ ?_
          · intro c3
            refine go_skip ?_
            refine go_seq ?_
            refine go_block ?_
            refine go_seq ?_
            refine go_elem_tm (xs := a.a) (by repeat constructor) (i) (List.getElem?_eq_getElem (by omega)) (fun b7 o7 hA => ?_); cases hA
            refine go_elem_tm (xs := a.a) (by repeat constructor) (j) (List.getElem?_eq_getElem (by omega)) (fun b8 o8 hA => ?_); cases hA
            refine go_elem_int (xs := f.a) (by repeat constructor) (i) (List.getElem?_eq_getElem (by omega)) (fun b9 o9 hA => ?_); cases hA
            refine go_elem_int (xs := f.a) (by repeat constructor) (j) (List.getElem?_eq_getElem (by omega)) (fun b10 o10 hA => ?_); cases hA
            refine go_draw'  [1, 5, 8, 11, 13, 16, 21, 24, 26, 29] (SL.pre [(1, 0), (1, 2), (2, 1), (1, 3), (1, 4), (2, 5), (1, 6), (1, 7), (1, 9), (1, 12), (1, 14), (2, 8), (1, 10), (2, 11), (2, 13), (1, 15), (2, 16), (1, 17), (1, 18), (1, 19), (1, 20), (1, 22), (1, 25), (1, 27), (2, 21), (1, 23), (2, 24), (2, 26), (1, 28), (2, 29), (1, 30), (1, 31)] .nil) mixed rfl (by kernel_rfl) ?_
            refine go_pure1 Tk rfl rfl rfl ?_
            refine go_pure1 Tk rfl rfl rfl ?_
            refine go_val2 rfl (load_val Tk rfl rfl rfl (by first | exact at_pt (by repeat constructor) (by rfl) | exact at_cl 0 (by repeat constructor) (by rfl) | exact at_cl 1 (by repeat constructor) (by rfl) | exact at_cl 2 (by repeat constructor) (by rfl) | exact at_cl 3 (by repeat constructor) (by rfl) | exact at_cl 4 (by repeat constructor) (by rfl) | exact at_cl 5 (by repeat constructor) (by rfl) | exact at_cl 6 (by repeat constructor) (by rfl) | exact at_cl 7 (by repeat constructor) (by rfl)) (by rfl)) (by repeat constructor) (by repeat constructor) rfl ?_
            refine go_val1 rfl (idx_val Tk rfl rfl rfl rfl rfl (by omega)) rfl ?_
            refine go_pure1 Tk rfl rfl rfl ?_
            refine go_val2 rfl (load_val Tk rfl rfl rfl (by first | exact at_pt (by repeat constructor) (by rfl) | exact at_cl 0 (by repeat constructor) (by rfl) | exact at_cl 1 (by repeat constructor) (by rfl) | exact at_cl 2 (by repeat constructor) (by rfl) | exact at_cl 3 (by repeat constructor) (by rfl) | exact at_cl 4 (by repeat constructor) (by rfl) | exact at_cl 5 (by repeat constructor) (by rfl) | exact at_cl 6 (by repeat constructor) (by rfl) | exact at_cl 7 (by repeat constructor) (by rfl)) (by rfl)) (by repeat constructor) (by repeat constructor) rfl ?_
            refine go_pure1 Tk rfl rfl rfl ?_
            refine go_known 60 rfl ?_ ?_
            · intro h2
              (try simp only [decide_eq_true_eq, decide_eq_false_iff_not, Bool.not_eq_true', Bool.not_eq_false', Bool.not_eq_eq_eq_not, Bool.not_true, Bool.not_false, Int.not_lt, Int.not_le, beq_iff_eq, beq_eq_false_iff_ne, ne_eq] at h2)
              refine go_pure1 Tk rfl rfl rfl ?_
              refine go_pure1 Tk rfl rfl rfl ?_
              refine go_pure1 Tk rfl rfl rfl ?_
              refine go_pure1 Tk rfl rfl rfl ?_
              refine go_val2 rfl (load_val Tk rfl rfl rfl (by first | exact at_pt (by repeat constructor) (by rfl) | exact at_cl 0 (by repeat constructor) (by rfl) | exact at_cl 1 (by repeat constructor) (by rfl) | exact at_cl 2 (by repeat constructor) (by rfl) | exact at_cl 3 (by repeat constructor) (by rfl) | exact at_cl 4 (by repeat constructor) (by rfl) | exact at_cl 5 (by repeat constructor) (by rfl) | exact at_cl 6 (by repeat constructor) (by rfl) | exact at_cl 7 (by repeat constructor) (by rfl)) (by rfl)) (by repeat constructor) (by repeat constructor) rfl ?_
              refine go_val1 rfl (idx_val Tk rfl rfl rfl rfl rfl (by omega)) rfl ?_
              refine go_val2 rfl (load_val Tk rfl rfl rfl (by first | exact at_pt (by repeat constructor) (by rfl) | exact at_cl 0 (by repeat constructor) (by rfl) | exact at_cl 1 (by repeat constructor) (by rfl) | exact at_cl 2 (by repeat constructor) (by rfl) | exact at_cl 3 (by repeat constructor) (by rfl) | exact at_cl 4 (by repeat constructor) (by rfl) | exact at_cl 5 (by repeat constructor) (by rfl) | exact at_cl 6 (by repeat constructor) (by rfl) | exact at_cl 7 (by repeat constructor) (by rfl)) (by rfl)) (by repeat constructor) (by repeat constructor) rfl ?_
              refine go_val2 rfl (load_val Tk rfl rfl rfl (by first | exact at_pt (by repeat constructor) (by rfl) | exact at_cl 0 (by repeat constructor) (by rfl) | exact at_cl 1 (by repeat constructor) (by rfl) | exact at_cl 2 (by repeat constructor) (by rfl) | exact at_cl 3 (by repeat constructor) (by rfl) | exact at_cl 4 (by repeat constructor) (by rfl) | exact at_cl 5 (by repeat constructor) (by rfl) | exact at_cl 6 (by repeat constructor) (by rfl) | exact at_cl 7 (by repeat constructor) (by rfl)) (by rfl)) (by repeat constructor) (by repeat constructor) rfl ?_
              refine go_val1 rfl (idx_val Tk rfl rfl rfl rfl rfl (by omega)) rfl ?_
              refine go_val2 rfl (load_val Tk rfl rfl rfl (by first | exact at_pt (by repeat constructor) (by rfl) | exact at_cl 0 (by repeat constructor) (by rfl) | exact at_cl 1 (by repeat constructor) (by rfl) | exact at_cl 2 (by repeat constructor) (by rfl) | exact at_cl 3 (by repeat constructor) (by rfl) | exact at_cl 4 (by repeat constructor) (by rfl) | exact at_cl 5 (by repeat constructor) (by rfl) | exact at_cl 6 (by repeat constructor) (by rfl) | exact at_cl 7 (by repeat constructor) (by rfl)) (by rfl)) (by repeat constructor) (by repeat constructor) rfl ?_
              refine go_val1 rfl (seq_val Tk rfl rfl rfl rfl (by rfl) rfl (by kernel_rfl) (by kernel_rfl)) rfl ?_
              refine go_re 71 (.bool (decide (a.a[i] = a.a[j]))) (by show some (Value.bool _) = _; rw [tm_eq]) ?_
              refine go_pure1 Tk rfl rfl rfl ?_
              refine go_pure1 Tk rfl rfl rfl ?_
              refine go_known 73 rfl ?_ ?_
              · intro h3
                (try simp only [decide_eq_true_eq, decide_eq_false_iff_not, Bool.not_eq_true', Bool.not_eq_false', Bool.not_eq_eq_eq_not, Bool.not_true, Bool.not_false, Int.not_lt, Int.not_le, beq_iff_eq, beq_eq_false_iff_ne, ne_eq] at h3)
                refine go_pure1 Tk rfl rfl rfl ?_
                refine go_pure1 Tk rfl rfl rfl ?_
                refine go_pure1 Tk rfl rfl rfl ?_
                refine go_pure1 Tk rfl rfl rfl ?_
                refine go_val2 rfl (load_val Tk rfl rfl rfl (by first | exact at_pt (by repeat constructor) (by rfl) | exact at_cl 0 (by repeat constructor) (by rfl) | exact at_cl 1 (by repeat constructor) (by rfl) | exact at_cl 2 (by repeat constructor) (by rfl) | exact at_cl 3 (by repeat constructor) (by rfl) | exact at_cl 4 (by repeat constructor) (by rfl) | exact at_cl 5 (by repeat constructor) (by rfl) | exact at_cl 6 (by repeat constructor) (by rfl) | exact at_cl 7 (by repeat constructor) (by rfl)) (by rfl)) (by repeat constructor) (by repeat constructor) rfl ?_
                refine go_val1 rfl (idx_val Tk rfl rfl rfl rfl rfl (by omega)) rfl ?_
                refine go_val2 rfl (load_val Tk rfl rfl rfl (by first | exact at_pt (by repeat constructor) (by rfl) | exact at_cl 0 (by repeat constructor) (by rfl) | exact at_cl 1 (by repeat constructor) (by rfl) | exact at_cl 2 (by repeat constructor) (by rfl) | exact at_cl 3 (by repeat constructor) (by rfl) | exact at_cl 4 (by repeat constructor) (by rfl) | exact at_cl 5 (by repeat constructor) (by rfl) | exact at_cl 6 (by repeat constructor) (by rfl) | exact at_cl 7 (by repeat constructor) (by rfl)) (by rfl)) (by repeat constructor) (by repeat constructor) rfl ?_
                refine go_val2 rfl (load_val Tk rfl rfl rfl (by first | exact at_pt (by repeat constructor) (by rfl) | exact at_cl 0 (by repeat constructor) (by rfl) | exact at_cl 1 (by repeat constructor) (by rfl) | exact at_cl 2 (by repeat constructor) (by rfl) | exact at_cl 3 (by repeat constructor) (by rfl) | exact at_cl 4 (by repeat constructor) (by rfl) | exact at_cl 5 (by repeat constructor) (by rfl) | exact at_cl 6 (by repeat constructor) (by rfl) | exact at_cl 7 (by repeat constructor) (by rfl)) (by rfl)) (by repeat constructor) (by repeat constructor) rfl ?_
                refine go_val1 rfl (idx_val Tk rfl rfl rfl rfl rfl (by omega)) rfl ?_
                refine go_val2 rfl (load_val Tk rfl rfl rfl (by first | exact at_pt (by repeat constructor) (by rfl) | exact at_cl 0 (by repeat constructor) (by rfl) | exact at_cl 1 (by repeat constructor) (by rfl) | exact at_cl 2 (by repeat constructor) (by rfl) | exact at_cl 3 (by repeat constructor) (by rfl) | exact at_cl 4 (by repeat constructor) (by rfl) | exact at_cl 5 (by repeat constructor) (by rfl) | exact at_cl 6 (by repeat constructor) (by rfl) | exact at_cl 7 (by repeat constructor) (by rfl)) (by rfl)) (by repeat constructor) (by repeat constructor) rfl ?_
                refine go_pure1 Tk rfl rfl rfl ?_
                refine go_pure1 Tk rfl rfl rfl ?_
                refine go_nil ?_
                refine go_env [(2, _), (3, _), (5, _), (6, _), (36, _), (37, _), (38, _), (39, _), (40, _), (41, _), (42, _), (43, _), (44, _), (45, _), (46, _), (47, _), (61, _), (62, _), (63, _), (64, _), (65, _), (66, _), (67, _), (68, _), (69, _), (70, _), (71, _), (74, _), (75, _), (76, _), (77, _), (78, _), (79, _), (80, _), (81, _), (82, _), (83, _), (84, _), (85, _)] ⟨rfl, rfl, rfl, rfl, rfl, rfl, rfl, rfl, rfl, rfl, rfl, rfl, rfl, rfl, rfl, rfl, rfl, rfl, rfl, rfl, rfl, rfl, rfl, rfl, rfl, rfl, rfl, rfl, rfl, rfl, rfl, rfl, rfl, rfl, rfl, rfl, rfl, rfl, rfl, trivial⟩ ?_
                refine go_cond rfl ?_ ?_
                · intro h4
                  (try simp only [decide_eq_true_eq, decide_eq_false_iff_not, Bool.not_eq_true', Bool.not_eq_false', Bool.not_eq_eq_eq_not, Bool.not_true, Bool.not_false, Int.not_lt, Int.not_le, beq_iff_eq, beq_eq_false_iff_ne, ne_eq] at h4)
                  refine go_seq ?_
                  refine go_region rfl ?_
                  refine go_pure0 Tk rfl rfl rfl ?_
                  refine go_nil ?_
                  refine go_env [(4, _)] ⟨rfl, trivial⟩ ?_
                  refine go_ret ⟨rfl, rfl⟩ _ _ (fun a w hp ho hf hs => res1 (by rfl) (.tmp rfl) a w hp ho hf hs) ⟨by first | rw [mtch_sym_no (a := a) (f := f) (i := i) (by omega) (by omega) hv h1] | rw [mtch_pair_no (a := a) (f := f) (i := i) (j := j) (by omega) (by omega) (by omega) h2 (by simpa using h3) h4] | rw [mtch_pairs g1 hl (by rw [show a.a.length = i by omega]; exact hp)], rfl, rfl⟩ (by repeat constructor) (by repeat constructor)
                · intro h4
                  (try simp only [decide_eq_true_eq, decide_eq_false_iff_not, Bool.not_eq_true', Bool.not_eq_false', Bool.not_eq_eq_eq_not, Bool.not_true, Bool.not_false, Int.not_lt, Int.not_le, beq_iff_eq, beq_eq_false_iff_ne, ne_eq] at h4)
                  refine go_skip ?_
                  refine go_blk ?_
                  refine go_region rfl ?_
                  refine go_pure0 Tk rfl rfl rfl ?_
                  refine go_pure0 Tk rfl rfl rfl ?_
                  refine go_pure0 Tk rfl rfl rfl ?_
                  refine go_nil ?_
                  refine go_i64 6 rfl (by omega) (by omega) ?_
                  refine go_back (j + 1) ⟨rfl, rfl, rfl, rfl, rfl, rfl, rfl, rfl, rfl, rfl, rfl, rfl, rfl, rfl, rfl, rfl, trivial⟩ (by repeat constructor) (by repeat constructor) ⟨by omega, fun k hk hki => by
                    rcases Nat.lt_or_ge k j with q | q
                    · exact hq k q hki
                    · obtain rfl : k = j := by omega
                      intro q1 q2; first | exact h4 | (exfalso; simp_all)⟩ (by omega)
              · intro h3
                (try simp only [decide_eq_true_eq, decide_eq_false_iff_not, Bool.not_eq_true', Bool.not_eq_false', Bool.not_eq_eq_eq_not, Bool.not_true, Bool.not_false, Int.not_lt, Int.not_le, beq_iff_eq, beq_eq_false_iff_ne, ne_eq] at h3)
                refine go_skip1 rfl rfl ?_
                refine go_skip1 rfl rfl ?_
                refine go_skip1 rfl rfl ?_
                refine go_skip1 rfl rfl ?_
                refine go_skip2 rfl (by repeat constructor) (by repeat constructor) rfl ?_
                refine go_skip1 rfl rfl ?_
                refine go_skip2 rfl (by repeat constructor) (by repeat constructor) rfl ?_
                refine go_skip2 rfl (by repeat constructor) (by repeat constructor) rfl ?_
                refine go_skip1 rfl rfl ?_
                refine go_skip2 rfl (by repeat constructor) (by repeat constructor) rfl ?_
                refine go_skip1 rfl rfl ?_
                refine go_pure1 Tk rfl rfl rfl ?_
                refine go_nil ?_
                refine go_env [(2, _), (3, _), (5, _), (6, _), (36, _), (37, _), (38, _), (39, _), (40, _), (41, _), (42, _), (43, _), (44, _), (45, _), (46, _), (47, _), (61, _), (62, _), (63, _), (64, _), (65, _), (66, _), (67, _), (68, _), (69, _), (70, _), (71, _), (74, _), (75, _), (76, _), (77, _), (78, _), (79, _), (80, _), (81, _), (82, _), (83, _), (84, _), (85, _)] ⟨rfl, rfl, rfl, rfl, rfl, rfl, rfl, rfl, rfl, rfl, rfl, rfl, rfl, rfl, rfl, rfl, rfl, rfl, rfl, rfl, rfl, rfl, rfl, rfl, rfl, rfl, rfl, rfl, rfl, rfl, rfl, rfl, rfl, rfl, rfl, rfl, rfl, rfl, rfl, trivial⟩ ?_
                refine go_cond_f rfl ?_
                refine go_skip ?_
                refine go_blk ?_
                refine go_region rfl ?_
                refine go_pure0 Tk rfl rfl rfl ?_
                refine go_pure0 Tk rfl rfl rfl ?_
                refine go_pure0 Tk rfl rfl rfl ?_
                refine go_nil ?_
                refine go_i64 6 rfl (by omega) (by omega) ?_
                refine go_back (j + 1) ⟨rfl, rfl, rfl, rfl, rfl, rfl, rfl, rfl, rfl, rfl, rfl, rfl, rfl, rfl, rfl, rfl, trivial⟩ (by repeat constructor) (by repeat constructor) ⟨by omega, fun k hk hki => by
                  rcases Nat.lt_or_ge k j with q | q
                  · exact hq k q hki
                  · obtain rfl : k = j := by omega
                    intro q1 q2; first | exact h4 | (exfalso; simp_all)⟩ (by omega)
            · intro h2
              (try simp only [decide_eq_true_eq, decide_eq_false_iff_not, Bool.not_eq_true', Bool.not_eq_false', Bool.not_eq_eq_eq_not, Bool.not_true, Bool.not_false, Int.not_lt, Int.not_le, beq_iff_eq, beq_eq_false_iff_ne, ne_eq] at h2)
              refine go_skip1 rfl rfl ?_
              refine go_skip1 rfl rfl ?_
              refine go_skip1 rfl rfl ?_
              refine go_skip1 rfl rfl ?_
              refine go_skip2 rfl (by repeat constructor) (by repeat constructor) rfl ?_
              refine go_skip1 rfl rfl ?_
              refine go_skip2 rfl (by repeat constructor) (by repeat constructor) rfl ?_
              refine go_skip2 rfl (by repeat constructor) (by repeat constructor) rfl ?_
              refine go_skip1 rfl rfl ?_
              refine go_skip2 rfl (by repeat constructor) (by repeat constructor) rfl ?_
              refine go_skip1 rfl rfl ?_
              refine go_pure1 Tk rfl rfl rfl ?_
              refine go_pure1 Tk rfl rfl rfl ?_
              refine go_skip1 rfl rfl ?_
              refine go_skip1 rfl rfl ?_
              refine go_skip1 rfl rfl ?_
              refine go_skip1 rfl rfl ?_
              refine go_skip2 rfl (by repeat constructor) (by repeat constructor) rfl ?_
              refine go_skip1 rfl rfl ?_
              refine go_skip2 rfl (by repeat constructor) (by repeat constructor) rfl ?_
              refine go_skip2 rfl (by repeat constructor) (by repeat constructor) rfl ?_
              refine go_skip1 rfl rfl ?_
              refine go_skip2 rfl (by repeat constructor) (by repeat constructor) rfl ?_
              refine go_skip1 rfl rfl ?_
              refine go_pure1 Tk rfl rfl rfl ?_
              refine go_nil ?_
              refine go_env [(2, _), (3, _), (5, _), (6, _), (36, _), (37, _), (38, _), (39, _), (40, _), (41, _), (42, _), (43, _), (44, _), (45, _), (46, _), (47, _), (61, _), (62, _), (63, _), (64, _), (65, _), (66, _), (67, _), (68, _), (69, _), (70, _), (71, _), (74, _), (75, _), (76, _), (77, _), (78, _), (79, _), (80, _), (81, _), (82, _), (83, _), (84, _), (85, _)] ⟨rfl, rfl, rfl, rfl, rfl, rfl, rfl, rfl, rfl, rfl, rfl, rfl, rfl, rfl, rfl, rfl, rfl, rfl, rfl, rfl, rfl, rfl, rfl, rfl, rfl, rfl, rfl, rfl, rfl, rfl, rfl, rfl, rfl, rfl, rfl, rfl, rfl, rfl, rfl, trivial⟩ ?_
              refine go_cond_f rfl ?_
              refine go_skip ?_
              refine go_blk ?_
              refine go_region rfl ?_
              refine go_pure0 Tk rfl rfl rfl ?_
              refine go_pure0 Tk rfl rfl rfl ?_
              refine go_pure0 Tk rfl rfl rfl ?_
              refine go_nil ?_
              refine go_i64 6 rfl (by omega) (by omega) ?_
              refine go_back (j + 1) ⟨rfl, rfl, rfl, rfl, rfl, rfl, rfl, rfl, rfl, rfl, rfl, rfl, rfl, rfl, rfl, rfl, trivial⟩ (by repeat constructor) (by repeat constructor) ⟨by omega, fun k hk hki => by
                rcases Nat.lt_or_ge k j with q | q
                · exact hq k q hki
                · obtain rfl : k = j := by omega
                  intro q1 q2; first | exact h4 | (exfalso; simp_all)⟩ (by omega)
          · intro c3
            refine go_exit rfl ?_
            refine go_blk ?_
            refine go_region rfl ?_
            refine go_pure0 Tk rfl rfl rfl ?_
            refine go_pure0 Tk rfl rfl rfl ?_
            refine go_pure0 Tk rfl rfl rfl ?_
            refine go_nil ?_
            refine go_i64 5 rfl (by omega) (by omega) ?_
            refine go_back (i + 1) ⟨rfl, rfl, rfl, trivial⟩ (by repeat constructor) (by repeat constructor) ⟨by omega, pairs_next hp (by omega) (by omega) hs (fun j hj => hq j (by omega) hj)⟩ (by omega)
      · intro c1
        refine go_exit rfl ?_
        refine go_seq ?_
        refine go_region rfl ?_
        refine go_pure0 Tk rfl rfl rfl ?_
        refine go_nil ?_
        refine go_env [(4, _)] ⟨rfl, trivial⟩ ?_
        refine go_ret ⟨rfl, rfl⟩ _ _ (fun a w hp ho hf hs => res1 (by rfl) (.tmp rfl) a w hp ho hf hs) ⟨by first | rw [mtch_sym_no (a := a) (f := f) (i := i) (by omega) (by omega) hv h1] | rw [mtch_pair_no (a := a) (f := f) (i := i) (j := j) (by omega) (by omega) (by omega) h2 (by simpa using h3) h4] | rw [mtch_pairs g1 hl (by rw [show a.a.length = i by omega]; exact hp)], rfl, rfl⟩ (by repeat constructor) (by repeat constructor)

end Go.Proofs.Ytdkfpgdfjnaciaa.SL
