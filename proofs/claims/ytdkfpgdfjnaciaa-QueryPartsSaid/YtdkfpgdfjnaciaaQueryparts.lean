/- Contracts of functions of the program (Queryparts): what each call comes to, for the laws' proofs. -/
import Derived.Test.YtdkfpgdfjnaciaaQueryc
set_option linter.unusedVariables false
set_option linter.unusedSimpArgs false
namespace Go.Proofs.Ytdkfpgdfjnaciaa.SL
open Go 

set_option maxHeartbeats 2000000 in
set_option maxRecDepth 20000 in
theorem lawQueryParts (l : List Fa) (LA : Option Addr) (lc : Nat) (gl : ∀ x ∈ l, x.ok) (t : Am) (TA : Option Addr) (tc : Nat) (gt : t.ok) (u : Int) (hu : 0 ≤ u ∧ u < 256) :
    Spec Try.prog 15 #[.slice LA l.length lc, .agg #[.int .u32 t.p, .slice TA t.a.length tc], .int .u8 u] [sl tFa LA lc l, sl tTm TA tc t.a] [] (fun v Ps' Os' => v = .bool true ∧ Ps' = [] ∧ Os' = []) := by
  refine spec_of (fn := Try.f15) (args := [.slice LA l.length lc, .agg #[.int .u32 t.p, .slice TA t.a.length tc], .int .u8 u]) 166 Try.func15 rfl (by kernel_rfl) Try.ntmps15 (Nat.le_of_ble_eq_true rfl) (fun w0 hp0 hf0 => ?_)
  refine go_seq ?_
  refine go_region rfl ?_
  refine go_box Tk rfl rfl rfl rfl (by rfl) rfl rfl (fun h => nomatch h) ?_
  intro bt
  refine go_freeze_pt (b := bt) (by repeat constructor) ?_
  refine go_pure0 Tk rfl rfl rfl ?_
  refine go_nil ?_
  refine go_env [(0, _), (2, _), (4, _)] ⟨rfl, rfl, rfl, trivial⟩ ?_
  refine go_seq ?_
  refine go_seq ?_
  refine go_len (xs := l) (by repeat constructor) (fun ll ml => ?_)
  refine go_len (xs := t.a) (by repeat constructor) (fun lt mt => ?_)
  refine go_region rfl ?_
  refine go_pure0 Tk rfl rfl rfl ?_
  refine go_val0 rfl (load_val Tk rfl rfl rfl (by first | exact at_pt (by repeat constructor) (by rfl) | exact at_cl 0 (by repeat constructor) (by rfl) | exact at_cl 1 (by repeat constructor) (by rfl) | exact at_cl 2 (by repeat constructor) (by rfl) | exact at_cl 3 (by repeat constructor) (by rfl) | exact at_cl 4 (by repeat constructor) (by rfl) | exact at_cl 5 (by repeat constructor) (by rfl) | exact at_cl 6 (by repeat constructor) (by rfl) | exact at_cl 7 (by repeat constructor) (by rfl)) (by rfl)) rfl ?_
  refine go_call (lawFew16 LA lc l t TA tc) rfl rfl (by rfl) rfl (by repeat constructor) (by repeat constructor) (fun h => nomatch h) ?_
  rintro _ _ _ ⟨rfl, rfl, rfl⟩
  refine go_pure0 Tk rfl rfl rfl ?_
  refine go_pure0 Tk rfl rfl rfl ?_
  refine go_known 24 rfl ?_ ?_
  · intro f1
    (try simp only [decide_eq_true_eq, decide_eq_false_iff_not, Bool.not_eq_true', Bool.not_eq_false', Bool.not_eq_eq_eq_not, Bool.not_true, Bool.not_false, Int.not_lt, Int.not_le, beq_iff_eq, beq_eq_false_iff_ne, ne_eq] at f1)
    refine go_skip0 rfl rfl ?_
    refine go_skip0 rfl rfl ?_
    refine go_skip0 rfl rfl ?_
    refine go_skip0 rfl rfl ?_
    refine go_pure0 Tk rfl rfl rfl ?_
    refine go_nil ?_
    refine go_env [(0, _), (2, _), (4, _), (29, _)] ⟨rfl, rfl, rfl, rfl, trivial⟩ ?_
    refine go_cond_t rfl ?_
    refine go_seq ?_
    refine go_region rfl ?_
    refine go_call (lawWorks16) rfl rfl (by rfl) rfl (by repeat constructor) (by repeat constructor) (fun h => nomatch h) ?_
    rintro _ _ _ ⟨rfl, rfl, rfl⟩
    refine go_pure0 Tk rfl rfl rfl ?_
    refine go_nil ?_
    refine go_env [(6, _)] ⟨rfl, trivial⟩ ?_
    refine go_ret ⟨rfl, rfl⟩ _ _ (fun a w hp ho hf hs => res1 (by rfl) (.tmp rfl) a w hp ho hf hs) ⟨rfl, rfl, rfl⟩ (by repeat constructor) (by repeat constructor)
  · intro f1
    (try simp only [decide_eq_true_eq, decide_eq_false_iff_not, Bool.not_eq_true', Bool.not_eq_false', Bool.not_eq_eq_eq_not, Bool.not_true, Bool.not_false, Int.not_lt, Int.not_le, beq_iff_eq, beq_eq_false_iff_ne, ne_eq] at f1)
    refine go_pure0 Tk rfl rfl rfl ?_
    refine go_val0 rfl (load_val Tk rfl rfl rfl (by first | exact at_pt (by repeat constructor) (by rfl) | exact at_cl 0 (by repeat constructor) (by rfl) | exact at_cl 1 (by repeat constructor) (by rfl) | exact at_cl 2 (by repeat constructor) (by rfl) | exact at_cl 3 (by repeat constructor) (by rfl) | exact at_cl 4 (by repeat constructor) (by rfl) | exact at_cl 5 (by repeat constructor) (by rfl) | exact at_cl 6 (by repeat constructor) (by rfl) | exact at_cl 7 (by repeat constructor) (by rfl)) (by rfl)) rfl ?_
    refine go_pure0 Tk rfl rfl rfl ?_
    refine go_pure0 Tk rfl rfl rfl ?_
    refine go_pure0 Tk rfl rfl rfl ?_
    refine go_nil ?_
    refine go_env [(0, _), (2, _), (4, _), (29, _)] ⟨rfl, rfl, rfl, rfl, trivial⟩ ?_
    refine go_cond rfl ?_ ?_
    · intro f2
      (try simp only [decide_eq_true_eq, decide_eq_false_iff_not, Bool.not_eq_true', Bool.not_eq_false', Bool.not_eq_eq_eq_not, Bool.not_true, Bool.not_false, Int.not_lt, Int.not_le, beq_iff_eq, beq_eq_false_iff_ne, ne_eq] at f2)
      refine go_seq ?_
      refine go_region rfl ?_
      refine go_call (lawWorks16) rfl rfl (by rfl) rfl (by repeat constructor) (by repeat constructor) (fun h => nomatch h) ?_
      rintro _ _ _ ⟨rfl, rfl, rfl⟩
      refine go_pure0 Tk rfl rfl rfl ?_
      refine go_nil ?_
      refine go_env [(6, _)] ⟨rfl, trivial⟩ ?_
      refine go_ret ⟨rfl, rfl⟩ _ _ (fun a w hp ho hf hs => res1 (by rfl) (.tmp rfl) a w hp ho hf hs) ⟨rfl, rfl, rfl⟩ (by repeat constructor) (by repeat constructor)
    · intro f2
      (try simp only [decide_eq_true_eq, decide_eq_false_iff_not, Bool.not_eq_true', Bool.not_eq_false', Bool.not_eq_eq_eq_not, Bool.not_true, Bool.not_false, Int.not_lt, Int.not_le, beq_iff_eq, beq_eq_false_iff_ne, ne_eq] at f2)
      refine go_skip ?_
      refine go_seq ?_
      obtain ⟨hn, hta, hb⟩ := fewQ_iff.1 f1
      have hN : l.length ≤ 1000000 := by omega
      have hB : ∀ x ∈ l, x.a.length ≤ 100000 := fun x hx => Nat.le_trans (hb x hx) (by omega)
      have ha : ∀ x ∈ t.a, 0 ≤ x.n := fun x hx => (gt.2 x hx).1
      have hm : t.a.length ≤ 1000000 := by omega
      have hal := args_len hb
      obtain ⟨j0, hj0, he⟩ := rem_idx (n := t.a.length) hu.1 (by omega)
      have hjt : t.a[j0]? = some t.a[j0] := List.getElem?_eq_getElem hj0
      refine go_elem_tm (xs := t.a) (by repeat constructor) (j0) (List.getElem?_eq_getElem (by omega)) (fun b3 o3 hA => ?_); cases hA
      refine go_draw'  [1, 5, 9] (SL.pre [(1, 0), (1, 2), (1, 3), (1, 4), (2, 1), (2, 5), (1, 6), (1, 7), (1, 8), (2, 9), (0, 10), (0, 11)] .nil) mixed rfl (by kernel_rfl) ?_
      refine go_pure1 Tk rfl rfl rfl ?_
      refine go_pure1 Tk rfl rfl rfl ?_
      refine go_pure1 Tk rfl rfl rfl ?_
      refine go_i64 34 rfl (by omega) (by omega) ?_
      refine go_pure1 Tk rfl rfl rfl ?_
      refine go_val2 rfl (load_val Tk rfl rfl rfl (by first | exact at_pt (by repeat constructor) (by rfl) | exact at_cl 0 (by repeat constructor) (by rfl) | exact at_cl 1 (by repeat constructor) (by rfl) | exact at_cl 2 (by repeat constructor) (by rfl) | exact at_cl 3 (by repeat constructor) (by rfl) | exact at_cl 4 (by repeat constructor) (by rfl) | exact at_cl 5 (by repeat constructor) (by rfl) | exact at_cl 6 (by repeat constructor) (by rfl) | exact at_cl 7 (by repeat constructor) (by rfl)) (by rfl)) (by repeat constructor) (by repeat constructor) rfl ?_
      refine go_val2 rfl (load_val Tk rfl rfl rfl (by first | exact at_pt (by repeat constructor) (by rfl) | exact at_cl 0 (by repeat constructor) (by rfl) | exact at_cl 1 (by repeat constructor) (by rfl) | exact at_cl 2 (by repeat constructor) (by rfl) | exact at_cl 3 (by repeat constructor) (by rfl) | exact at_cl 4 (by repeat constructor) (by rfl) | exact at_cl 5 (by repeat constructor) (by rfl) | exact at_cl 6 (by repeat constructor) (by rfl) | exact at_cl 7 (by repeat constructor) (by rfl)) (by rfl)) (by repeat constructor) (by repeat constructor) rfl ?_
      refine go_pure1 Tk rfl rfl rfl ?_
      refine go_val1 rfl (rem_val rfl rfl rfl (by omega)) rfl ?_
      refine go_re 38 (.int .i64 (j0 : Int)) (by show some _ = _; rw [he]) ?_
      refine go_val1 rfl (idx_val Tk rfl rfl rfl rfl rfl (by omega)) rfl ?_
      refine go_val2 rfl (load_val Tk rfl rfl rfl (by first | exact at_pt (by repeat constructor) (by rfl) | exact at_cl 0 (by repeat constructor) (by rfl) | exact at_cl 1 (by repeat constructor) (by rfl) | exact at_cl 2 (by repeat constructor) (by rfl) | exact at_cl 3 (by repeat constructor) (by rfl) | exact at_cl 4 (by repeat constructor) (by rfl) | exact at_cl 5 (by repeat constructor) (by rfl) | exact at_cl 6 (by repeat constructor) (by rfl) | exact at_cl 7 (by repeat constructor) (by rfl)) (by rfl)) (by repeat constructor) (by repeat constructor) rfl ?_
      refine go_alloc Tk rfl rfl rfl (by rfl) rfl rfl (fun _ _ => satS (by repeat constructor) (by repeat constructor)) ?_
      intro bv
      refine go_store Tk rfl rfl rfl rfl rfl rfl (by repeat constructor) rfl rfl (by rfl) (fun h => nomatch h) ?_
      refine go_nil ?_
      refine go_freeze_pt (b := bv) (by repeat constructor) ?_
      refine go_env [(0, _), (4, _), (7, _)] ⟨rfl, rfl, rfl, trivial⟩ ?_
      refine go_seq ?_
      refine go_seq ?_
      refine go_region rfl ?_
      refine go_pure0 Tk rfl rfl rfl ?_
      refine go_val0 rfl (load_val Tk rfl rfl rfl (by first | exact at_pt (by repeat constructor) (by rfl) | exact at_cl 0 (by repeat constructor) (by rfl) | exact at_cl 1 (by repeat constructor) (by rfl) | exact at_cl 2 (by repeat constructor) (by rfl) | exact at_cl 3 (by repeat constructor) (by rfl) | exact at_cl 4 (by repeat constructor) (by rfl) | exact at_cl 5 (by repeat constructor) (by rfl) | exact at_cl 6 (by repeat constructor) (by rfl) | exact at_cl 7 (by repeat constructor) (by rfl)) (by rfl)) rfl ?_
      refine go_pure0 Tk rfl rfl rfl ?_
      refine go_nil ?_
      refine go_env [(0, _), (4, _), (7, _), (43, _)] ⟨rfl, rfl, rfl, rfl, trivial⟩ ?_
      refine go_cond rfl ?_ ?_
      · intro hv
        (try simp only [decide_eq_true_eq, decide_eq_false_iff_not, Bool.not_eq_true', Bool.not_eq_false', Bool.not_eq_eq_eq_not, Bool.not_true, Bool.not_false, Int.not_lt, Int.not_le, beq_iff_eq, beq_eq_false_iff_ne, ne_eq] at hv)
        refine go_seq ?_
        refine go_region rfl ?_
        refine go_call (lawWorks16) rfl rfl (by rfl) rfl (by repeat constructor) (by repeat constructor) (fun h => nomatch h) ?_
        rintro _ _ _ ⟨rfl, rfl, rfl⟩
        refine go_pure0 Tk rfl rfl rfl ?_
        refine go_nil ?_
        refine go_env [(6, _)] ⟨rfl, trivial⟩ ?_
        refine go_ret ⟨rfl, rfl⟩ _ _ (fun a w hp ho hf hs => res1 (by rfl) (.tmp rfl) a w hp ho hf hs) ⟨rfl, rfl, rfl⟩ (by repeat constructor) (by repeat constructor)
      · intro hv
        (try simp only [decide_eq_true_eq, decide_eq_false_iff_not, Bool.not_eq_true', Bool.not_eq_false', Bool.not_eq_eq_eq_not, Bool.not_true, Bool.not_false, Int.not_lt, Int.not_le, beq_iff_eq, beq_eq_false_iff_ne, ne_eq] at hv)
        have hv : t.a[j0].v = true := by simpa using hv
        refine go_skip ?_
        refine go_seq ?_
        refine go_region rfl ?_
        refine go_pure0 Tk rfl rfl rfl ?_
        refine go_own_nil tU 28 none ?_
        rw [show ([] : List Int) = syms (args (l.take 0)) from by simp [args, syms]]
        refine go_re 8 (.slice none (syms (args (l.take 0))).length 0) (by simp [args, syms]; rfl) ?_
        refine go_nil ?_
        refine go_env [(0, _), (4, _), (7, _), (8, _)] ⟨rfl, rfl, rfl, rfl, trivial⟩ ?_
        refine go_seq ?_
        refine go_seq ?_
        refine go_region rfl ?_
        refine go_pure0 Tk rfl rfl rfl ?_
        refine go_nil ?_
        refine go_env [(0, _), (4, _), (7, _), (8, _), (9, _)] ⟨rfl, rfl, rfl, rfl, rfl, trivial⟩ ?_
        refine go_block ?_
        refine go_loop' (X := Nat × Option Addr × Nat) (fun x => [(8, .slice x.2.1 (syms (args (l.take x.1))).length x.2.2), (9, .int .i64 (x.1 : Int))]) [(0, _), (4, _), (7, _)] (fun x => [ol tU 28 x.2.1 x.2.2 (syms (args (l.take x.1)))]) (fun x => x.1 ≤ l.length) (fun x => l.length - x.1) ((0, none, 0)) ⟨rfl, rfl, rfl, rfl, rfl, trivial⟩ (by repeat constructor) (by omega) ?_
        intro ⟨i, A1, c1⟩ hi
        simp only at hi ⊢
        refine go_seq ?_
        refine go_seq ?_
        refine go_region rfl ?_
        refine go_pure0 Tk rfl rfl rfl ?_
        refine go_pure0 Tk rfl rfl rfl ?_
        refine go_pure0 Tk rfl rfl rfl ?_
        refine go_pure0 Tk rfl rfl rfl ?_
        refine go_nil ?_
        refine go_env [(0, _), (4, _), (7, _), (8, _), (9, _), (48, _)] ⟨rfl, rfl, rfl, rfl, rfl, rfl, trivial⟩ ?_
        refine go_condD rfl ?_ ?_
        · intro hq1
          refine go_skip ?_
          refine go_seq ?_
          refine go_block ?_
          refine go_seq ?_
          refine go_elem_fa (xs := l) (by repeat constructor) (i) (List.getElem?_eq_getElem (by omega)) (fun b4 o4 A4 c4 hA => ?_); cases hA
          refine go_len (xs := l[i].a) (by repeat constructor) (fun li mi => ?_)
          have hbi := hb l[i] (List.getElem_mem _)
          rw [syms_row0 (l := l) (i := i) (by omega)]
          refine go_region rfl ?_
          refine go_pure0 Tk rfl rfl rfl ?_
          refine go_nil ?_
          refine go_env [(0, _), (4, _), (7, _), (8, _), (9, _), (10, _)] ⟨rfl, rfl, rfl, rfl, rfl, rfl, trivial⟩ ?_
          refine go_block ?_
          refine go_loop' (X := Nat × Option Addr × Nat) (fun x => [(8, .slice x.2.1 (syms (args (l.take i) ++ l[i].a.take x.1)).length x.2.2), (10, .int .i64 (x.1 : Int))]) [(0, _), (4, _), (7, _), (9, _)] (fun x => [ol tU 28 x.2.1 x.2.2 (syms (args (l.take i) ++ l[i].a.take x.1))]) (fun x => x.1 ≤ l[i].a.length) (fun x => l[i].a.length - x.1) ((0, A1, c1)) ⟨rfl, rfl, rfl, rfl, rfl, rfl, trivial⟩ (by repeat constructor) (by omega) ?_
          intro ⟨k, A5, c5⟩ hk
          simp only at hk ⊢
          have hsl := syms_part (l := l) (i := i) (k := k) hb (by omega)
          refine go_seq ?_
          refine go_seq ?_
          refine go_region rfl ?_
          refine go_pure0 Tk rfl rfl rfl ?_
          refine go_pure0 Tk rfl rfl rfl ?_
          refine go_pure0 Tk rfl rfl rfl ?_
          refine go_val0 rfl (idx_val Tk rfl rfl rfl rfl rfl (by omega)) rfl ?_
          refine go_pure0 Tk rfl rfl rfl ?_
          refine go_val0 rfl (load_val Tk rfl rfl rfl (by first | exact at_pt (by repeat constructor) (by rfl) | exact at_cl 0 (by repeat constructor) (by rfl) | exact at_cl 1 (by repeat constructor) (by rfl) | exact at_cl 2 (by repeat constructor) (by rfl) | exact at_cl 3 (by repeat constructor) (by rfl) | exact at_cl 4 (by repeat constructor) (by rfl) | exact at_cl 5 (by repeat constructor) (by rfl) | exact at_cl 6 (by repeat constructor) (by rfl) | exact at_cl 7 (by repeat constructor) (by rfl)) (by rfl)) rfl ?_
          refine go_pure0 Tk rfl rfl rfl ?_
          refine go_pure0 Tk rfl rfl rfl ?_
          refine go_nil ?_
          refine go_env [(0, _), (4, _), (7, _), (8, _), (9, _), (10, _), (58, _)] ⟨rfl, rfl, rfl, rfl, rfl, rfl, rfl, trivial⟩ ?_
          refine go_condD rfl ?_ ?_
          · intro hq2
            refine go_skip ?_
            refine go_seq ?_
            refine go_block ?_
            refine go_seq ?_
            refine go_elem_int (xs := l[i].a) (by repeat constructor) (k) (List.getElem?_eq_getElem (by omega)) (fun b6 o6 hA => ?_); cases hA
            refine go_region rfl ?_
            refine go_pure0 Tk rfl rfl rfl ?_
            refine go_re 11 (.bool (decide (l[i].a[k] ∈ (syms (args (l.take i) ++ l[i].a.take k)).take 0))) (by show some (Value.bool false) = _; simp) ?_
            refine go_nil ?_
            refine go_env [(0, _), (4, _), (7, _), (8, _), (9, _), (10, _), (11, _)] ⟨rfl, rfl, rfl, rfl, rfl, rfl, rfl, trivial⟩ ?_
            refine go_seq ?_
            refine go_seq ?_
            refine go_region rfl ?_
            refine go_pure0 Tk rfl rfl rfl ?_
            refine go_nil ?_
            refine go_env [(0, _), (4, _), (7, _), (8, _), (9, _), (10, _), (11, _), (12, _)] ⟨rfl, rfl, rfl, rfl, rfl, rfl, rfl, rfl, trivial⟩ ?_
            refine go_block ?_
            refine go_loop' (X := Nat) (fun j => [(11, .bool (decide (l[i].a[k] ∈ (syms (args (l.take i) ++ l[i].a.take k)).take j))), (12, .int .i64 (j : Int))]) [(0, _), (4, _), (7, _), (8, _), (9, _), (10, _)] (fun _ => []) (fun j => j ≤ (syms (args (l.take i) ++ l[i].a.take k)).length) (fun j => (syms (args (l.take i) ++ l[i].a.take k)).length - j) (0) ⟨rfl, rfl, rfl, rfl, rfl, rfl, rfl, rfl, trivial⟩ (by repeat constructor) (by omega) ?_
            intro j hj
            refine go_seq ?_
            refine go_seq ?_
            refine go_region rfl ?_
            refine go_pure0 Tk rfl rfl rfl ?_
            refine go_pure0 Tk rfl rfl rfl ?_
            refine go_pure0 Tk rfl rfl rfl ?_
            refine go_pure0 Tk rfl rfl rfl ?_
            refine go_nil ?_
            refine go_env [(0, _), (4, _), (7, _), (8, _), (9, _), (10, _), (11, _), (12, _), (64, _)] ⟨rfl, rfl, rfl, rfl, rfl, rfl, rfl, rfl, rfl, trivial⟩ ?_
            refine go_condD rfl ?_ ?_
            · intro hq3
              refine go_skip ?_
              refine go_seq ?_
              refine go_block ?_
              refine go_ol_addr (xs := syms (args (l.take i) ++ l[i].a.take k)) (by repeat constructor) (by omega) (fun b7 hA => ?_); subst hA
              refine go_draw'  [5, 10, 13] (SL.pre [(1, 0), (1, 1), (1, 2), (1, 3), (1, 4), (1, 6), (1, 7), (1, 8), (1, 9), (1, 11), (2, 5), (2, 10), (1, 12), (2, 13), (1, 14), (1, 15), (1, 16)] .nil) mixed rfl (by kernel_rfl) ?_
              refine go_pure1 Tk rfl rfl rfl ?_
              refine go_pure1 Tk rfl rfl rfl ?_
              refine go_known 68 rfl ?_ ?_
              · intro g5
                (try simp only [decide_eq_true_eq, decide_eq_false_iff_not, Bool.not_eq_true', Bool.not_eq_false', Bool.not_eq_eq_eq_not, Bool.not_true, Bool.not_false, Int.not_lt, Int.not_le, beq_iff_eq, beq_eq_false_iff_ne, ne_eq] at g5)
                refine go_skip1 rfl rfl ?_
                refine go_skip1 rfl rfl ?_
                refine go_skip1 rfl rfl ?_
                refine go_skip1 rfl rfl ?_
                refine go_skip1 rfl rfl ?_
                refine go_skip1 rfl rfl ?_
                refine go_skip1 rfl rfl ?_
                refine go_skip1 rfl rfl ?_
                refine go_skip2 rfl (by repeat constructor) (by repeat constructor) rfl ?_
                refine go_skip2 rfl (by repeat constructor) (by repeat constructor) rfl ?_
                refine go_skip1 rfl rfl ?_
                refine go_skip2 rfl (by repeat constructor) (by repeat constructor) rfl ?_
                refine go_skip1 rfl rfl ?_
                refine go_pure1 Tk rfl rfl rfl ?_
                refine go_pure1 Tk rfl rfl rfl ?_
                refine go_nil ?_
                refine go_env [(0, _), (4, _), (7, _), (8, _), (9, _), (10, _), (11, _), (12, _), (69, _), (70, _), (71, _), (72, _), (73, _), (74, _), (75, _), (76, _), (77, _), (78, _), (79, _), (80, _), (81, _)] ⟨rfl, rfl, rfl, rfl, rfl, rfl, rfl, rfl, rfl, rfl, rfl, rfl, rfl, rfl, rfl, rfl, rfl, rfl, rfl, rfl, rfl, trivial⟩ ?_
                refine go_blk ?_
                refine go_region rfl ?_
                refine go_pure0 Tk rfl rfl rfl ?_
                refine go_pure0 Tk rfl rfl rfl ?_
                refine go_pure0 Tk rfl rfl rfl ?_
                refine go_nil ?_
                refine go_i64 12 rfl (by omega) (by omega) ?_
                refine go_re 11 (.bool (decide (l[i].a[k] ∈ (syms (args (l.take i) ++ l[i].a.take k)).take (j + 1)))) (by show some _ = _; first | rw [int_next_yes g5] | rw [int_next_no (by omega) g5]) ?_
                refine go_back (j + 1) ⟨rfl, rfl, rfl, rfl, rfl, rfl, rfl, rfl, trivial⟩ (by repeat constructor) (by repeat constructor) (by omega) (by omega)
              · intro g5
                (try simp only [decide_eq_true_eq, decide_eq_false_iff_not, Bool.not_eq_true', Bool.not_eq_false', Bool.not_eq_eq_eq_not, Bool.not_true, Bool.not_false, Int.not_lt, Int.not_le, beq_iff_eq, beq_eq_false_iff_ne, ne_eq] at g5)
                refine go_pure1 Tk rfl rfl rfl ?_
                refine go_pure1 Tk rfl rfl rfl ?_
                refine go_val1 rfl (idx_val Tk rfl rfl rfl rfl rfl (by omega)) rfl ?_
                refine go_pure1 Tk rfl rfl rfl ?_
                refine go_pure1 Tk rfl rfl rfl ?_
                refine go_val1 rfl (idx_val Tk rfl rfl rfl rfl rfl (by omega)) rfl ?_
                refine go_pure1 Tk rfl rfl rfl ?_
                refine go_pure1 Tk rfl rfl rfl ?_
                refine go_val2 rfl (load_val Tk rfl rfl rfl (at_olp (fun y : Int => [.int .u32 y]) fc_int (xs := syms (args (l.take i) ++ l[i].a.take k)) (by repeat constructor) j (List.getElem?_eq_getElem (by omega)) rfl rfl) rfl) (by repeat constructor) (by repeat constructor) rfl ?_
                refine go_val2 rfl (load_val Tk rfl rfl rfl (by first | exact at_pt (by repeat constructor) (by rfl) | exact at_cl 0 (by repeat constructor) (by rfl) | exact at_cl 1 (by repeat constructor) (by rfl) | exact at_cl 2 (by repeat constructor) (by rfl) | exact at_cl 3 (by repeat constructor) (by rfl) | exact at_cl 4 (by repeat constructor) (by rfl) | exact at_cl 5 (by repeat constructor) (by rfl) | exact at_cl 6 (by repeat constructor) (by rfl) | exact at_cl 7 (by repeat constructor) (by rfl)) (by rfl)) (by repeat constructor) (by repeat constructor) rfl ?_
                refine go_val1 rfl (idx_val Tk rfl rfl rfl rfl rfl (by omega)) rfl ?_
                refine go_val2 rfl (load_val Tk rfl rfl rfl (by first | exact at_pt (by repeat constructor) (by rfl) | exact at_cl 0 (by repeat constructor) (by rfl) | exact at_cl 1 (by repeat constructor) (by rfl) | exact at_cl 2 (by repeat constructor) (by rfl) | exact at_cl 3 (by repeat constructor) (by rfl) | exact at_cl 4 (by repeat constructor) (by rfl) | exact at_cl 5 (by repeat constructor) (by rfl) | exact at_cl 6 (by repeat constructor) (by rfl) | exact at_cl 7 (by repeat constructor) (by rfl)) (by rfl)) (by repeat constructor) (by repeat constructor) rfl ?_
                refine go_pure1 Tk rfl rfl rfl ?_
                refine go_pure1 Tk rfl rfl rfl ?_
                refine go_pure1 Tk rfl rfl rfl ?_
                refine go_nil ?_
                refine go_env [(0, _), (4, _), (7, _), (8, _), (9, _), (10, _), (11, _), (12, _), (69, _), (70, _), (71, _), (72, _), (73, _), (74, _), (75, _), (76, _), (77, _), (78, _), (79, _), (80, _), (81, _)] ⟨rfl, rfl, rfl, rfl, rfl, rfl, rfl, rfl, rfl, rfl, rfl, rfl, rfl, rfl, rfl, rfl, rfl, rfl, rfl, rfl, rfl, trivial⟩ ?_
                refine go_blk ?_
                refine go_region rfl ?_
                refine go_pure0 Tk rfl rfl rfl ?_
                refine go_pure0 Tk rfl rfl rfl ?_
                refine go_pure0 Tk rfl rfl rfl ?_
                refine go_nil ?_
                refine go_i64 12 rfl (by omega) (by omega) ?_
                refine go_re 11 (.bool (decide (l[i].a[k] ∈ (syms (args (l.take i) ++ l[i].a.take k)).take (j + 1)))) (by show some _ = _; first | rw [int_next_yes g5] | rw [int_next_no (by omega) g5]) ?_
                refine go_back (j + 1) ⟨rfl, rfl, rfl, rfl, rfl, rfl, rfl, rfl, trivial⟩ (by repeat constructor) (by repeat constructor) (by omega) (by omega)
            · intro hq3
              refine go_exit rfl ?_
              refine go_seq ?_
              refine go_re 11 (.bool (decide (l[i].a[k] ∈ syms (args (l.take i) ++ l[i].a.take k)))) (by show some _ = _; rw [List.take_of_length_le (by omega)]) ?_
              refine go_region rfl ?_
              refine go_pure0 Tk rfl rfl rfl ?_
              refine go_pure0 Tk rfl rfl rfl ?_
              refine go_nil ?_
              refine go_env [(0, _), (4, _), (7, _), (8, _), (9, _), (10, _), (84, _)] ⟨rfl, rfl, rfl, rfl, rfl, rfl, rfl, trivial⟩ ?_
              refine go_cond rfl ?_ ?_
              · intro hx
                (try simp only [decide_eq_true_eq, decide_eq_false_iff_not, Bool.not_eq_true', Bool.not_eq_false', Bool.not_eq_eq_eq_not, Bool.not_true, Bool.not_false, Int.not_lt, Int.not_le, beq_iff_eq, beq_eq_false_iff_ne, ne_eq] at hx)
                refine go_region rfl ?_
                refine go_pure0 Tk rfl rfl rfl ?_
                refine go_pure0 Tk rfl rfl rfl ?_
                refine go_pure0 Tk rfl rfl rfl ?_
                refine go_val0 rfl (idx_val Tk rfl rfl rfl rfl rfl (by omega)) rfl ?_
                refine go_pure0 Tk rfl rfl rfl ?_
                refine go_val0 rfl (load_val Tk rfl rfl rfl (by first | exact at_pt (by repeat constructor) (by rfl) | exact at_cl 0 (by repeat constructor) (by rfl) | exact at_cl 1 (by repeat constructor) (by rfl) | exact at_cl 2 (by repeat constructor) (by rfl) | exact at_cl 3 (by repeat constructor) (by rfl) | exact at_cl 4 (by repeat constructor) (by rfl) | exact at_cl 5 (by repeat constructor) (by rfl) | exact at_cl 6 (by repeat constructor) (by rfl) | exact at_cl 7 (by repeat constructor) (by rfl)) (by rfl)) rfl ?_
                refine go_pure0 Tk rfl rfl rfl ?_
                refine go_val0 rfl (idx_val Tk rfl rfl rfl rfl rfl (by omega)) rfl ?_
                refine go_val0 rfl (load_val Tk rfl rfl rfl (by first | exact at_pt (by repeat constructor) (by rfl) | exact at_cl 0 (by repeat constructor) (by rfl) | exact at_cl 1 (by repeat constructor) (by rfl) | exact at_cl 2 (by repeat constructor) (by rfl) | exact at_cl 3 (by repeat constructor) (by rfl) | exact at_cl 4 (by repeat constructor) (by rfl) | exact at_cl 5 (by repeat constructor) (by rfl) | exact at_cl 6 (by repeat constructor) (by rfl) | exact at_cl 7 (by repeat constructor) (by rfl)) (by rfl)) rfl ?_
                refine go_bslice Tk rfl rfl rfl rfl rfl rfl rfl rfl (fun h => nomatch h) ?_
                intro bn
                refine go_append1 (T := tU) (xs := syms (args (l.take i) ++ l[i].a.take k)) Tk (l[i].a[k]) rfl rfl rfl rfl rfl rfl rfl rfl rfl (by repeat constructor) (by repeat constructor) rfl ent_int (by omega) (by first | exact (fun _ _ _ => satS (by repeat constructor) (by repeat constructor)) | exact (fun h => nomatch h) | exact (fun h => nomatch (Eq.symm h).trans (show _ = false by kernel_rfl))) ?_
                intro A8 c8
                refine go_pure0 Tk rfl rfl rfl ?_
                refine go_nil ?_
                refine go_env [(0, _), (4, _), (7, _), (8, _), (9, _), (10, _)] ⟨rfl, rfl, rfl, rfl, rfl, rfl, trivial⟩ ?_
                refine go_blk ?_
                refine go_region rfl ?_
                refine go_pure0 Tk rfl rfl rfl ?_
                refine go_pure0 Tk rfl rfl rfl ?_
                refine go_pure0 Tk rfl rfl rfl ?_
                refine go_nil ?_
                refine go_i64 10 rfl (by omega) (by omega) ?_
                rw [← syms_new (by omega) hx]
                refine go_back (k + 1, _, _) ⟨rfl, rfl, rfl, rfl, rfl, rfl, trivial⟩ (by repeat constructor) (by repeat constructor) (by show k + 1 ≤ _; omega) (by show l[i].a.length - (k + 1) < l[i].a.length - k; omega)
              · intro hx
                (try simp only [decide_eq_true_eq, decide_eq_false_iff_not, Bool.not_eq_true', Bool.not_eq_false', Bool.not_eq_eq_eq_not, Bool.not_true, Bool.not_false, Int.not_lt, Int.not_le, beq_iff_eq, beq_eq_false_iff_ne, ne_eq] at hx)
                refine go_skip ?_
                refine go_blk ?_
                refine go_region rfl ?_
                refine go_pure0 Tk rfl rfl rfl ?_
                refine go_pure0 Tk rfl rfl rfl ?_
                refine go_pure0 Tk rfl rfl rfl ?_
                refine go_nil ?_
                refine go_i64 10 rfl (by omega) (by omega) ?_
                rw [← syms_old (by omega) hx]
                refine go_back (k + 1, _, _) ⟨rfl, rfl, rfl, rfl, rfl, rfl, trivial⟩ (by repeat constructor) (by repeat constructor) (by show k + 1 ≤ _; omega) (by show l[i].a.length - (k + 1) < l[i].a.length - k; omega)
          · intro hq2
            refine go_exit rfl ?_
            refine go_blk ?_
            refine go_region rfl ?_
            refine go_pure0 Tk rfl rfl rfl ?_
            refine go_pure0 Tk rfl rfl rfl ?_
            refine go_pure0 Tk rfl rfl rfl ?_
            refine go_nil ?_
            refine go_i64 9 rfl (by omega) (by omega) ?_
            rw [syms_row (by omega) (by omega)]
            refine go_back (i + 1, _, _) ⟨rfl, rfl, rfl, rfl, rfl, trivial⟩ (by repeat constructor) (by repeat constructor) (by show i + 1 ≤ _; omega) (by show l.length - (i + 1) < l.length - i; omega)
        · intro hq1
          refine go_exit rfl ?_
          refine go_seq ?_
          refine go_seq ?_
          rw [List.take_of_length_le (show l.length ≤ i by omega)]
          have hsl := syms_len (args l)
          refine go_region rfl ?_
          refine go_pure0 Tk rfl rfl rfl ?_
          refine go_pure0 Tk rfl rfl rfl ?_
          refine go_pure0 Tk rfl rfl rfl ?_
          refine go_nil ?_
          refine go_env [(0, _), (4, _), (7, _), (8, _), (98, _)] ⟨rfl, rfl, rfl, rfl, rfl, trivial⟩ ?_
          refine go_condD rfl ?_ ?_
          · intro h60
            refine go_seq ?_
            refine go_region rfl ?_
            refine go_call (lawWorks16) rfl rfl (by rfl) rfl (by repeat constructor) (by repeat constructor) (fun h => nomatch h) ?_
            rintro _ _ _ ⟨rfl, rfl, rfl⟩
            refine go_pure0 Tk rfl rfl rfl ?_
            refine go_nil ?_
            refine go_env [(6, _)] ⟨rfl, trivial⟩ ?_
            refine go_ret ⟨rfl, rfl⟩ _ _ (fun a w hp ho hf hs => res1 (by rfl) (.tmp rfl) a w hp ho hf hs) ⟨rfl, rfl, rfl⟩ (by repeat constructor) (by repeat constructor)
          · intro h60
            refine go_skip ?_
            refine go_seq ?_
            refine go_freeze_ol (A := A1) (xs := syms (args l)) (by repeat constructor) ?_
            refine go_region rfl ?_
            refine go_pure0 Tk rfl rfl rfl ?_
            refine go_val0 rfl (load_val Tk rfl rfl rfl (by first | exact at_pt (by repeat constructor) (by rfl) | exact at_cl 0 (by repeat constructor) (by rfl) | exact at_cl 1 (by repeat constructor) (by rfl) | exact at_cl 2 (by repeat constructor) (by rfl) | exact at_cl 3 (by repeat constructor) (by rfl) | exact at_cl 4 (by repeat constructor) (by rfl) | exact at_cl 5 (by repeat constructor) (by rfl) | exact at_cl 6 (by repeat constructor) (by rfl) | exact at_cl 7 (by repeat constructor) (by rfl)) (by rfl)) rfl ?_
            refine go_call (queryAsk LA lc l t (some ⟨b3, o3, none⟩) tc ha hm hN hB) rfl rfl (by rfl) rfl (by repeat constructor) (by repeat constructor) (fun h => nomatch h) ?_
            rintro _ _ _ ⟨A9, c9, rfl, rfl, rfl⟩
            refine go_freeze_ol (A := A9) (xs := fof (l.filter (mtch t))) (by repeat constructor) ?_
            refine go_pure0 Tk rfl rfl rfl ?_
            refine go_nil ?_
            refine go_env [(0, _), (4, _), (7, _), (8, _), (13, _)] ⟨rfl, rfl, rfl, rfl, rfl, trivial⟩ ?_
            refine go_seq ?_
            refine go_region rfl ?_
            refine go_pure0 Tk rfl rfl rfl ?_
            refine go_nil ?_
            refine go_env [(0, _), (4, _), (7, _), (8, _), (13, _), (14, _)] ⟨rfl, rfl, rfl, rfl, rfl, rfl, trivial⟩ ?_
            refine go_seq ?_
            refine go_seq ?_
            refine go_region rfl ?_
            refine go_pure0 Tk rfl rfl rfl ?_
            refine go_nil ?_
            refine go_env [(0, _), (4, _), (7, _), (8, _), (13, _), (14, _), (15, _)] ⟨rfl, rfl, rfl, rfl, rfl, rfl, rfl, trivial⟩ ?_
            refine go_block ?_
            refine go_loop' (X := Nat) (fun k => [(14, .int .i64 (parts l t t.a[j0] ((syms (args l)).take k) : Int)), (15, .int .i64 (k : Int))]) [(0, _), (4, _), (7, _), (8, _), (13, _)] (fun _ => []) (fun k => k ≤ (syms (args l)).length) (fun k => (syms (args l)).length - k) (0) ⟨rfl, rfl, rfl, rfl, rfl, rfl, rfl, trivial⟩ (by repeat constructor) (by omega) ?_
            intro k hk
            have hpb := parts_le (l := l) (a := t) (t := t.a[j0]) (S := (syms (args l)).take k)
            have hpk : ((syms (args l)).take k).length ≤ 60 := by rw [List.length_take]; omega
            have hpm := Nat.mul_le_mul hpk hn
            refine go_seq ?_
            refine go_seq ?_
            refine go_region rfl ?_
            refine go_pure0 Tk rfl rfl rfl ?_
            refine go_pure0 Tk rfl rfl rfl ?_
            refine go_pure0 Tk rfl rfl rfl ?_
            refine go_pure0 Tk rfl rfl rfl ?_
            refine go_nil ?_
            refine go_env [(0, _), (4, _), (7, _), (8, _), (13, _), (14, _), (15, _), (106, _)] ⟨rfl, rfl, rfl, rfl, rfl, rfl, rfl, rfl, trivial⟩ ?_
            refine go_condD rfl ?_ ?_
            · intro hq4
              refine go_skip ?_
              refine go_seq ?_
              refine go_block ?_
              refine go_seq ?_
              refine go_draw ([cl bt 0 [.int .u32 t.p, .slice (some ⟨b3, o3, none⟩) t.a.length tc]]) ([]) [1, 4] (SL.pre [(1, 0), (1, 3), (2, 1), (2, 4)] (.two (SL.pre [(0, 2)] (.two (SL.pre [(0, 5), (1, 6), (0, 7), (0, 8)] .nil) (SL.pre [(0, 7), (0, 5), (1, 6), (0, 8)] .nil))) (SL.pre [(0, 7), (0, 2), (0, 5), (1, 6), (0, 8)] .nil))) mixed rfl (by kernel_rfl) ?_
              refine go_pure1 Tk rfl rfl rfl ?_
              refine go_pure1 Tk rfl rfl rfl ?_
              refine go_val2 rfl (load_val Tk rfl rfl rfl (by first | exact at_pt (by repeat constructor) (by rfl) | exact at_cl 0 (by repeat constructor) (by rfl) | exact at_cl 1 (by repeat constructor) (by rfl) | exact at_cl 2 (by repeat constructor) (by rfl) | exact at_cl 3 (by repeat constructor) (by rfl) | exact at_cl 4 (by repeat constructor) (by rfl) | exact at_cl 5 (by repeat constructor) (by rfl) | exact at_cl 6 (by repeat constructor) (by rfl) | exact at_cl 7 (by repeat constructor) (by rfl)) (by rfl)) (by repeat constructor) (by repeat constructor) rfl ?_
              refine go_val2 rfl (load_val Tk rfl rfl rfl (by first | exact at_pt (by repeat constructor) (by rfl) | exact at_cl 0 (by repeat constructor) (by rfl) | exact at_cl 1 (by repeat constructor) (by rfl) | exact at_cl 2 (by repeat constructor) (by rfl) | exact at_cl 3 (by repeat constructor) (by rfl) | exact at_cl 4 (by repeat constructor) (by rfl) | exact at_cl 5 (by repeat constructor) (by rfl) | exact at_cl 6 (by repeat constructor) (by rfl) | exact at_cl 7 (by repeat constructor) (by rfl)) (by rfl)) (by repeat constructor) (by repeat constructor) rfl ?_
              refine go_two ?_ ?_
              · skip
                refine go_bslice Tk rfl rfl rfl rfl rfl rfl rfl rfl (fun _ _ => satS (by repeat constructor) (by repeat constructor)) ?_
                intro bc
                refine go_lit_ol (b := bc) tTm [] (by repeat constructor) (fun _ _ => rfl) (by simp) ?_
                refine go_two ?_ ?_
                · skip
                  refine go_appendN (T := tTm) (xs := []) (ys := t.a) Tk rfl rfl rfl rfl rfl rfl rfl rfl rfl (by repeat constructor) rfl (by repeat constructor) (by simp; omega) (by first | exact (fun _ _ _ => satS (by repeat constructor) (by repeat constructor)) | exact (fun h => nomatch h) | exact (fun h => nomatch (Eq.symm h).trans (show _ = false by kernel_rfl))) ?_
                  intro B1 d1
                  rw [List.nil_append t.a]
                  refine go_val1 rfl (fun a w hp ho hf hs => build_val Tk rfl rfl rfl (by rfl) a w hf) rfl ?_
                  refine go_alloc Tk rfl rfl rfl (by rfl) rfl rfl (fun _ _ => satS (by repeat constructor) (by repeat constructor)) ?_
                  intro ba
                  refine go_store Tk rfl rfl rfl rfl rfl rfl (by repeat constructor) rfl rfl (by rfl) (fun h => nomatch h) ?_
                  refine go_nil ?_
                  refine go_env [(0, _), (4, _), (7, _), (8, _), (13, _), (14, _), (15, _), (16, _)] ⟨rfl, rfl, rfl, rfl, rfl, rfl, rfl, rfl, trivial⟩ ?_
                  refine go_seq ?_
                  refine go_seq ?_
                  refine go_ol_addr (xs := t.a) (by repeat constructor) (by omega) (fun b1 hA => ?_); subst hA
                  refine go_imp (ol tTm 78 (some ⟨b1, 0, none⟩) d1 t.a) [ol tTm 78 (some ⟨b1, 0, none⟩) d1 (subs t.a t.a[j0] (syms (args l))[k] 0)] (by repeat constructor) (fun _ _ q => sep_one (by simpa [subs] using q)) ?_
                  refine go_region rfl ?_
                  refine go_pure0 Tk rfl rfl rfl ?_
                  refine go_nil ?_
                  refine go_env [(0, _), (4, _), (7, _), (8, _), (13, _), (14, _), (15, _), (16, _), (17, _)] ⟨rfl, rfl, rfl, rfl, rfl, rfl, rfl, rfl, rfl, trivial⟩ ?_
                  refine go_block ?_
                  refine go_loop' (X := Nat) (fun n => [(17, .int .i64 (n : Int))]) [(0, _), (4, _), (7, _), (8, _), (13, _), (14, _), (15, _), (16, _)] (fun n => [ol tTm 78 (some ⟨b1, 0, none⟩) d1 (subs t.a t.a[j0] (syms (args l))[k] n)]) (fun n => n ≤ t.a.length) (fun n => t.a.length - n) (0) ⟨rfl, rfl, rfl, rfl, rfl, rfl, rfl, rfl, rfl, trivial⟩ (by repeat constructor) (by omega) ?_
                  intro n hn2
                  have hsl2 := subs_len t.a t.a[j0] (syms (args l))[k] n
                  refine go_seq ?_
                  refine go_seq ?_
                  refine go_region rfl ?_
                  refine go_pure0 Tk rfl rfl rfl ?_
                  refine go_pure0 Tk rfl rfl rfl ?_
                  refine go_val0 rfl (load_val Tk rfl rfl rfl (by first | exact at_pt (by repeat constructor) (by rfl) | exact at_cl 0 (by repeat constructor) (by rfl) | exact at_cl 1 (by repeat constructor) (by rfl) | exact at_cl 2 (by repeat constructor) (by rfl) | exact at_cl 3 (by repeat constructor) (by rfl) | exact at_cl 4 (by repeat constructor) (by rfl) | exact at_cl 5 (by repeat constructor) (by rfl) | exact at_cl 6 (by repeat constructor) (by rfl) | exact at_cl 7 (by repeat constructor) (by rfl)) (by rfl)) rfl ?_
                  refine go_pure0 Tk rfl rfl rfl ?_
                  refine go_pure0 Tk rfl rfl rfl ?_
                  refine go_nil ?_
                  refine go_env [(0, _), (4, _), (7, _), (8, _), (13, _), (14, _), (15, _), (16, _), (17, _), (120, _)] ⟨rfl, rfl, rfl, rfl, rfl, rfl, rfl, rfl, rfl, rfl, trivial⟩ ?_
                  refine go_condD rfl ?_ ?_
                  · intro hq5
                    refine go_skip ?_
                    refine go_seq ?_
                    refine go_block ?_
                    refine go_seq ?_
                    refine go_draw'  [1, 4, 5] (SL.pre [(1, 0), (1, 2), (2, 1), (1, 3), (2, 4), (2, 5), (1, 6)] .nil) mixed rfl (by kernel_rfl) ?_
                    refine go_pure1 Tk rfl rfl rfl ?_
                    refine go_pure1 Tk rfl rfl rfl ?_
                    refine go_val2 rfl (load_val Tk rfl rfl rfl (by first | exact at_pt (by repeat constructor) (by rfl) | exact at_cl 0 (by repeat constructor) (by rfl) | exact at_cl 1 (by repeat constructor) (by rfl) | exact at_cl 2 (by repeat constructor) (by rfl) | exact at_cl 3 (by repeat constructor) (by rfl) | exact at_cl 4 (by repeat constructor) (by rfl) | exact at_cl 5 (by repeat constructor) (by rfl) | exact at_cl 6 (by repeat constructor) (by rfl) | exact at_cl 7 (by repeat constructor) (by rfl)) (by rfl)) (by repeat constructor) (by repeat constructor) rfl ?_
                    refine go_val1 rfl (idx_val Tk rfl rfl rfl rfl rfl (by omega)) rfl ?_
                    refine go_val2 rfl (load_val Tk rfl rfl rfl (at_olp fcT fcT_eq (xs := subs t.a t.a[j0] (syms (args l))[k] n) (by repeat constructor) n (subs_get (by omega)) rfl rfl) rfl) (by repeat constructor) (by repeat constructor) rfl ?_
                    refine go_val2 rfl (load_val Tk rfl rfl rfl (by first | exact at_pt (by repeat constructor) (by rfl) | exact at_cl 0 (by repeat constructor) (by rfl) | exact at_cl 1 (by repeat constructor) (by rfl) | exact at_cl 2 (by repeat constructor) (by rfl) | exact at_cl 3 (by repeat constructor) (by rfl) | exact at_cl 4 (by repeat constructor) (by rfl) | exact at_cl 5 (by repeat constructor) (by rfl) | exact at_cl 6 (by repeat constructor) (by rfl) | exact at_cl 7 (by repeat constructor) (by rfl)) (by rfl)) (by repeat constructor) (by repeat constructor) rfl ?_
                    refine go_val1 rfl (seq_val Tk rfl rfl rfl rfl (by rfl) rfl (by kernel_rfl) (by kernel_rfl)) rfl ?_
                    refine go_re 129 (.bool (decide (t.a[j0] = t.a[n]))) (by show some _ = _; rw [tm_eq]) ?_
                    refine go_nil ?_
                    refine go_env [(0, _), (4, _), (7, _), (8, _), (13, _), (14, _), (15, _), (16, _), (17, _), (129, _)] ⟨rfl, rfl, rfl, rfl, rfl, rfl, rfl, rfl, rfl, rfl, trivial⟩ ?_
                    refine go_cond rfl ?_ ?_
                    · intro g6
                      (try simp only [decide_eq_true_eq, decide_eq_false_iff_not, Bool.not_eq_true', Bool.not_eq_false', Bool.not_eq_eq_eq_not, Bool.not_true, Bool.not_false, Int.not_lt, Int.not_le, beq_iff_eq, beq_eq_false_iff_ne, ne_eq] at g6)
                      refine go_elem_int (xs := syms (args l)) (by repeat constructor) k (List.getElem?_eq_getElem (by omega)) (fun b8 o8 hA => ?_); cases hA
                      refine go_draw'  [1, 6] (SL.pre [(1, 0), (1, 2), (1, 3), (1, 4), (1, 5), (2, 1), (2, 6), (1, 7), (1, 8), (0, 9)] .nil) mixed rfl (by kernel_rfl) ?_
                      refine go_pure1 Tk rfl rfl rfl ?_
                      refine go_pure1 Tk rfl rfl rfl ?_
                      refine go_pure1 Tk rfl rfl rfl ?_
                      refine go_pure1 Tk rfl rfl rfl ?_
                      refine go_val1 rfl (idx_val Tk rfl rfl rfl rfl rfl (by omega)) rfl ?_
                      refine go_val2 rfl (load_val Tk rfl rfl rfl (by first | exact at_pt (by repeat constructor) (by rfl) | exact at_cl 0 (by repeat constructor) (by rfl) | exact at_cl 1 (by repeat constructor) (by rfl) | exact at_cl 2 (by repeat constructor) (by rfl) | exact at_cl 3 (by repeat constructor) (by rfl) | exact at_cl 4 (by repeat constructor) (by rfl) | exact at_cl 5 (by repeat constructor) (by rfl) | exact at_cl 6 (by repeat constructor) (by rfl) | exact at_cl 7 (by repeat constructor) (by rfl)) (by rfl)) (by repeat constructor) (by repeat constructor) rfl ?_
                      refine go_val2 rfl (load_val Tk rfl rfl rfl (by first | exact at_pt (by repeat constructor) (by rfl) | exact at_cl 0 (by repeat constructor) (by rfl) | exact at_cl 1 (by repeat constructor) (by rfl) | exact at_cl 2 (by repeat constructor) (by rfl) | exact at_cl 3 (by repeat constructor) (by rfl) | exact at_cl 4 (by repeat constructor) (by rfl) | exact at_cl 5 (by repeat constructor) (by rfl) | exact at_cl 6 (by repeat constructor) (by rfl) | exact at_cl 7 (by repeat constructor) (by rfl)) (by rfl)) (by repeat constructor) (by repeat constructor) rfl ?_
                      refine go_val1 rfl (fun a w hp ho hf hs => build_val Tk rfl rfl rfl (by rfl) a w hf) rfl ?_
                      refine go_val1 rfl (idx_val Tk rfl rfl rfl rfl rfl (by omega)) rfl ?_
                      refine go_store_el (T := tTm) (xs := subs t.a t.a[j0] (syms (args l))[k] n) (j := n) Tk (⟨false, (syms (args l))[k]⟩ : Tm) rfl rfl rfl rfl rfl rfl (by repeat constructor) (by omega) rfl rfl ent_tm (by first | exact (fun h => nomatch h) | exact (fun h => nomatch (Eq.symm h).trans (show _ = false by kernel_rfl))) ?_
                      refine go_nil ?_
                      refine go_env [(0, _), (4, _), (7, _), (8, _), (13, _), (14, _), (15, _), (16, _), (17, _)] ⟨rfl, rfl, rfl, rfl, rfl, rfl, rfl, rfl, rfl, trivial⟩ ?_
                      refine go_blk ?_
                      refine go_region rfl ?_
                      refine go_pure0 Tk rfl rfl rfl ?_
                      refine go_pure0 Tk rfl rfl rfl ?_
                      refine go_pure0 Tk rfl rfl rfl ?_
                      refine go_nil ?_
                      refine go_i64 17 rfl (by omega) (by omega) ?_
                      refine go_imp (ol tTm 78 (some ⟨b1, 0, none⟩) d1 ((subs t.a t.a[j0] (syms (args l))[k] n).set n ⟨false, (syms (args l))[k]⟩)) [ol tTm 78 (some ⟨b1, 0, none⟩) d1 (subs t.a t.a[j0] (syms (args l))[k] (n + 1))] (by repeat constructor) (fun _ _ q => sep_one (by rw [subs_yes (by omega) g6]; exact q)) ?_
                      refine go_back (n + 1) ⟨rfl, rfl, rfl, rfl, rfl, rfl, rfl, rfl, rfl, trivial⟩ (by repeat constructor) (by repeat constructor) (by omega) (by omega)
                    · intro g6
                      (try simp only [decide_eq_true_eq, decide_eq_false_iff_not, Bool.not_eq_true', Bool.not_eq_false', Bool.not_eq_eq_eq_not, Bool.not_true, Bool.not_false, Int.not_lt, Int.not_le, beq_iff_eq, beq_eq_false_iff_ne, ne_eq] at g6)
                      refine go_skip ?_
                      refine go_blk ?_
                      refine go_region rfl ?_
                      refine go_pure0 Tk rfl rfl rfl ?_
                      refine go_pure0 Tk rfl rfl rfl ?_
                      refine go_pure0 Tk rfl rfl rfl ?_
                      refine go_nil ?_
                      refine go_i64 17 rfl (by omega) (by omega) ?_
                      refine go_imp (ol tTm 78 (some ⟨b1, 0, none⟩) d1 (subs t.a t.a[j0] (syms (args l))[k] n)) [ol tTm 78 (some ⟨b1, 0, none⟩) d1 (subs t.a t.a[j0] (syms (args l))[k] (n + 1))] (by repeat constructor) (fun _ _ q => sep_one (by rw [subs_no (by omega) g6]; exact q)) ?_
                      refine go_back (n + 1) ⟨rfl, rfl, rfl, rfl, rfl, rfl, rfl, rfl, rfl, trivial⟩ (by repeat constructor) (by repeat constructor) (by omega) (by omega)
                  · intro hq5
                    refine go_exit rfl ?_
                    refine go_seq ?_
                    obtain rfl : n = t.a.length := by omega
                    refine go_imp (ol tTm 78 (some ⟨b1, 0, none⟩) d1 (subs t.a t.a[j0] (syms (args l))[k] t.a.length)) [ol tTm 78 (some ⟨b1, 0, none⟩) d1 (subA t t.a[j0] (syms (args l))[k]).a] (by repeat constructor) (fun _ _ q => sep_one (by rw [← subs_all]; exact q)) ?_
                    have hsa : (subA t t.a[j0] (syms (args l))[k]).a.length = t.a.length := by simp [subA]
                    refine go_freeze_ol (xs := (subA t t.a[j0] (syms (args l))[k]).a) (by repeat constructor) ?_
                    have hs0 : 0 ≤ (syms (args l))[k] := syms_ok gl (List.getElem_mem _)
                    refine go_region rfl ?_
                    refine go_pure0 Tk rfl rfl rfl ?_
                    refine go_val0 rfl (load_val Tk rfl rfl rfl (by first | exact at_pt (by repeat constructor) (by rfl) | exact at_cl 0 (by repeat constructor) (by rfl) | exact at_cl 1 (by repeat constructor) (by rfl) | exact at_cl 2 (by repeat constructor) (by rfl) | exact at_cl 3 (by repeat constructor) (by rfl) | exact at_cl 4 (by repeat constructor) (by rfl) | exact at_cl 5 (by repeat constructor) (by rfl) | exact at_cl 6 (by repeat constructor) (by rfl) | exact at_cl 7 (by repeat constructor) (by rfl)) (by rfl)) rfl ?_
                    refine go_re 140 (.agg #[.int .u32 (subA t t.a[j0] (syms (args l))[k]).p, .slice (some ⟨b1, 0, none⟩) (subA t t.a[j0] (syms (args l))[k]).a.length d1]) (by show some _ = some _; rw [hsa]; rfl) ?_
                    refine go_call (queryAsk LA lc l (subA t t.a[j0] (syms (args l))[k]) (some ⟨b1, 0, none⟩) d1 (subA_ok ha hs0) (by omega) hN hB) rfl rfl (by rfl) rfl (by repeat constructor) (by repeat constructor) (fun h => nomatch h) ?_
                    rintro _ _ _ ⟨B2, d2, rfl, rfl, rfl⟩
                    refine go_freeze_ol (A := B2) (xs := fof (l.filter (mtch (subA t t.a[j0] (syms (args l))[k])))) (by repeat constructor) ?_
                    refine go_pure0 Tk rfl rfl rfl ?_
                    refine go_nil ?_
                    refine go_env [(0, _), (4, _), (7, _), (8, _), (13, _), (14, _), (15, _), (18, _)] ⟨rfl, rfl, rfl, rfl, rfl, rfl, rfl, rfl, trivial⟩ ?_
                    refine go_seq ?_
                    refine go_seq ?_
                    refine go_len (xs := fof (l.filter (mtch (subA t t.a[j0] (syms (args l))[k])))) (by repeat constructor) (fun ly my => ?_)
                    refine go_region rfl ?_
                    refine go_pure0 Tk rfl rfl rfl ?_
                    refine go_nil ?_
                    refine go_env [(0, _), (4, _), (7, _), (8, _), (13, _), (14, _), (15, _), (18, _), (19, _)] ⟨rfl, rfl, rfl, rfl, rfl, rfl, rfl, rfl, rfl, trivial⟩ ?_
                    refine go_block ?_
                    refine go_loop' (X := Nat) (fun m => [(19, .int .i64 (m : Int))]) [(0, _), (4, _), (7, _), (8, _), (13, _), (14, _), (15, _), (18, _)] (fun _ => []) (fun m => m ≤ (fof (l.filter (mtch (subA t t.a[j0] (syms (args l))[k])))).length) (fun m => (fof (l.filter (mtch (subA t t.a[j0] (syms (args l))[k])))).length - m) (0) ⟨rfl, rfl, rfl, rfl, rfl, rfl, rfl, rfl, rfl, trivial⟩ (by repeat constructor) (by omega) ?_
                    intro m hm3
                    refine go_seq ?_
                    refine go_seq ?_
                    refine go_region rfl ?_
                    refine go_pure0 Tk rfl rfl rfl ?_
                    refine go_pure0 Tk rfl rfl rfl ?_
                    refine go_pure0 Tk rfl rfl rfl ?_
                    refine go_pure0 Tk rfl rfl rfl ?_
                    refine go_nil ?_
                    refine go_env [(0, _), (4, _), (7, _), (8, _), (13, _), (14, _), (15, _), (18, _), (19, _), (145, _)] ⟨rfl, rfl, rfl, rfl, rfl, rfl, rfl, rfl, rfl, rfl, trivial⟩ ?_
                    refine go_condD rfl ?_ ?_
                    · intro hq6
                      refine go_skip ?_
                      refine go_seq ?_
                      refine go_block ?_
                      refine go_seq ?_
                      refine go_elem_fa (xs := fof (l.filter (mtch (subA t t.a[j0] (syms (args l))[k])))) (by repeat constructor) (m) (List.getElem?_eq_getElem (by omega)) (fun b9 o9 A9' c9' hA => ?_); cases hA
                      refine go_region rfl ?_
                      refine go_pure0 Tk rfl rfl rfl ?_
                      refine go_pure0 Tk rfl rfl rfl ?_
                      refine go_pure0 Tk rfl rfl rfl ?_
                      refine go_val0 rfl (idx_val Tk rfl rfl rfl rfl rfl (by omega)) rfl ?_
                      refine go_val0 rfl (load_val Tk rfl rfl rfl (by first | exact at_pt (by repeat constructor) (by rfl) | exact at_cl 0 (by repeat constructor) (by rfl) | exact at_cl 1 (by repeat constructor) (by rfl) | exact at_cl 2 (by repeat constructor) (by rfl) | exact at_cl 3 (by repeat constructor) (by rfl) | exact at_cl 4 (by repeat constructor) (by rfl) | exact at_cl 5 (by repeat constructor) (by rfl) | exact at_cl 6 (by repeat constructor) (by rfl) | exact at_cl 7 (by repeat constructor) (by rfl)) (by rfl)) rfl ?_
                      refine go_call (ref13Has A9 c9 (fof (l.filter (mtch t))) (fof (l.filter (mtch (subA t t.a[j0] (syms (args l))[k]))))[m] A9' c9') rfl rfl (by rfl) rfl (by repeat constructor) (by repeat constructor) (fun h => nomatch h) ?_
                      rintro _ _ _ ⟨rfl, rfl, rfl⟩
                      refine go_pure0 Tk rfl rfl rfl ?_
                      refine go_re 154 (.bool false) (by show some (Value.bool _) = _; simp [part_in hjt hv (List.getElem_mem _)]) ?_
                      refine go_nil ?_
                      refine go_env [(0, _), (4, _), (7, _), (8, _), (13, _), (14, _), (15, _), (18, _), (19, _), (154, _)] ⟨rfl, rfl, rfl, rfl, rfl, rfl, rfl, rfl, rfl, rfl, trivial⟩ ?_
                      refine go_cond_f rfl ?_
                      refine go_skip ?_
                      refine go_blk ?_
                      refine go_region rfl ?_
                      refine go_pure0 Tk rfl rfl rfl ?_
                      refine go_pure0 Tk rfl rfl rfl ?_
                      refine go_pure0 Tk rfl rfl rfl ?_
                      refine go_nil ?_
                      refine go_i64 19 rfl (by omega) (by omega) ?_
                      refine go_back (m + 1) ⟨rfl, rfl, rfl, rfl, rfl, rfl, rfl, rfl, rfl, trivial⟩ (by repeat constructor) (by repeat constructor) (by omega) (by omega)
                    · intro hq6
                      refine go_exit rfl ?_
                      have hys : (fof (l.filter (mtch (subA t t.a[j0] (syms (args l))[k])))).length ≤ l.length := Nat.le_trans (fof_len _) (List.length_filter_le _ _)
                      refine go_region rfl ?_
                      refine go_pure0 Tk rfl rfl rfl ?_
                      refine go_pure0 Tk rfl rfl rfl ?_
                      refine go_pure0 Tk rfl rfl rfl ?_
                      refine go_pure0 Tk rfl rfl rfl ?_
                      refine go_i64 158 rfl (by omega) (by omega) ?_
                      refine go_pure0 Tk rfl rfl rfl ?_
                      refine go_nil ?_
                      refine go_env [(0, _), (4, _), (7, _), (8, _), (13, _), (14, _), (15, _)] ⟨rfl, rfl, rfl, rfl, rfl, rfl, rfl, trivial⟩ ?_
                      refine go_blk ?_
                      refine go_region rfl ?_
                      refine go_pure0 Tk rfl rfl rfl ?_
                      refine go_pure0 Tk rfl rfl rfl ?_
                      refine go_pure0 Tk rfl rfl rfl ?_
                      refine go_nil ?_
                      refine go_i64 15 rfl (by omega) (by omega) ?_
                      refine go_re 14 (.int .i64 (parts l t t.a[j0] ((syms (args l)).take (k + 1)) : Int)) (by show some (Value.int _ _) = _; rw [parts_next (by omega)]; rfl) ?_
                      refine go_back (k + 1) ⟨rfl, rfl, rfl, rfl, rfl, rfl, rfl, trivial⟩ (by repeat constructor) (by repeat constructor) (by omega) (by omega)
                refine go_alloc Tk rfl rfl rfl (by rfl) rfl rfl (fun _ _ => satS (by repeat constructor) (by repeat constructor)) ?_
                intro ba
                refine go_appendN (T := tTm) (xs := []) (ys := t.a) Tk rfl rfl rfl rfl rfl rfl rfl rfl rfl (by repeat constructor) rfl (by repeat constructor) (by simp; omega) (by first | exact (fun _ _ _ => satS (by repeat constructor) (by repeat constructor)) | exact (fun h => nomatch h) | exact (fun h => nomatch (Eq.symm h).trans (show _ = false by kernel_rfl))) ?_
                intro B1 d1
                rw [List.nil_append t.a]
                refine go_val1 rfl (fun a w hp ho hf hs => build_val Tk rfl rfl rfl (by rfl) a w hf) rfl ?_
                refine go_store Tk rfl rfl rfl rfl rfl rfl (by repeat constructor) rfl rfl (by rfl) (fun h => nomatch h) ?_
                refine go_nil ?_
                refine go_env [(0, _), (4, _), (7, _), (8, _), (13, _), (14, _), (15, _), (16, _)] ⟨rfl, rfl, rfl, rfl, rfl, rfl, rfl, rfl, trivial⟩ ?_
                refine go_seq ?_
                refine go_seq ?_
                refine go_ol_addr (xs := t.a) (by repeat constructor) (by omega) (fun b1 hA => ?_); subst hA
                refine go_imp (ol tTm 78 (some ⟨b1, 0, none⟩) d1 t.a) [ol tTm 78 (some ⟨b1, 0, none⟩) d1 (subs t.a t.a[j0] (syms (args l))[k] 0)] (by repeat constructor) (fun _ _ q => sep_one (by simpa [subs] using q)) ?_
                refine go_region rfl ?_
                refine go_pure0 Tk rfl rfl rfl ?_
                refine go_nil ?_
                refine go_env [(0, _), (4, _), (7, _), (8, _), (13, _), (14, _), (15, _), (16, _), (17, _)] ⟨rfl, rfl, rfl, rfl, rfl, rfl, rfl, rfl, rfl, trivial⟩ ?_
                refine go_block ?_
                refine go_loop' (X := Nat) (fun n => [(17, .int .i64 (n : Int))]) [(0, _), (4, _), (7, _), (8, _), (13, _), (14, _), (15, _), (16, _)] (fun n => [ol tTm 78 (some ⟨b1, 0, none⟩) d1 (subs t.a t.a[j0] (syms (args l))[k] n)]) (fun n => n ≤ t.a.length) (fun n => t.a.length - n) (0) ⟨rfl, rfl, rfl, rfl, rfl, rfl, rfl, rfl, rfl, trivial⟩ (by repeat constructor) (by omega) ?_
                intro n hn2
                have hsl2 := subs_len t.a t.a[j0] (syms (args l))[k] n
                refine go_seq ?_
                refine go_seq ?_
                refine go_region rfl ?_
                refine go_pure0 Tk rfl rfl rfl ?_
                refine go_pure0 Tk rfl rfl rfl ?_
                refine go_val0 rfl (load_val Tk rfl rfl rfl (by first | exact at_pt (by repeat constructor) (by rfl) | exact at_cl 0 (by repeat constructor) (by rfl) | exact at_cl 1 (by repeat constructor) (by rfl) | exact at_cl 2 (by repeat constructor) (by rfl) | exact at_cl 3 (by repeat constructor) (by rfl) | exact at_cl 4 (by repeat constructor) (by rfl) | exact at_cl 5 (by repeat constructor) (by rfl) | exact at_cl 6 (by repeat constructor) (by rfl) | exact at_cl 7 (by repeat constructor) (by rfl)) (by rfl)) rfl ?_
                refine go_pure0 Tk rfl rfl rfl ?_
                refine go_pure0 Tk rfl rfl rfl ?_
                refine go_nil ?_
                refine go_env [(0, _), (4, _), (7, _), (8, _), (13, _), (14, _), (15, _), (16, _), (17, _), (120, _)] ⟨rfl, rfl, rfl, rfl, rfl, rfl, rfl, rfl, rfl, rfl, trivial⟩ ?_
                refine go_condD rfl ?_ ?_
                · intro hq7
                  refine go_skip ?_
                  refine go_seq ?_
                  refine go_block ?_
                  refine go_seq ?_
                  refine go_draw'  [1, 4, 5] (SL.pre [(1, 0), (1, 2), (2, 1), (1, 3), (2, 4), (2, 5), (1, 6)] .nil) mixed rfl (by kernel_rfl) ?_
                  refine go_pure1 Tk rfl rfl rfl ?_
                  refine go_pure1 Tk rfl rfl rfl ?_
                  refine go_val2 rfl (load_val Tk rfl rfl rfl (by first | exact at_pt (by repeat constructor) (by rfl) | exact at_cl 0 (by repeat constructor) (by rfl) | exact at_cl 1 (by repeat constructor) (by rfl) | exact at_cl 2 (by repeat constructor) (by rfl) | exact at_cl 3 (by repeat constructor) (by rfl) | exact at_cl 4 (by repeat constructor) (by rfl) | exact at_cl 5 (by repeat constructor) (by rfl) | exact at_cl 6 (by repeat constructor) (by rfl) | exact at_cl 7 (by repeat constructor) (by rfl)) (by rfl)) (by repeat constructor) (by repeat constructor) rfl ?_
                  refine go_val1 rfl (idx_val Tk rfl rfl rfl rfl rfl (by omega)) rfl ?_
                  refine go_val2 rfl (load_val Tk rfl rfl rfl (at_olp fcT fcT_eq (xs := subs t.a t.a[j0] (syms (args l))[k] n) (by repeat constructor) n (subs_get (by omega)) rfl rfl) rfl) (by repeat constructor) (by repeat constructor) rfl ?_
                  refine go_val2 rfl (load_val Tk rfl rfl rfl (by first | exact at_pt (by repeat constructor) (by rfl) | exact at_cl 0 (by repeat constructor) (by rfl) | exact at_cl 1 (by repeat constructor) (by rfl) | exact at_cl 2 (by repeat constructor) (by rfl) | exact at_cl 3 (by repeat constructor) (by rfl) | exact at_cl 4 (by repeat constructor) (by rfl) | exact at_cl 5 (by repeat constructor) (by rfl) | exact at_cl 6 (by repeat constructor) (by rfl) | exact at_cl 7 (by repeat constructor) (by rfl)) (by rfl)) (by repeat constructor) (by repeat constructor) rfl ?_
                  refine go_val1 rfl (seq_val Tk rfl rfl rfl rfl (by rfl) rfl (by kernel_rfl) (by kernel_rfl)) rfl ?_
                  refine go_re 129 (.bool (decide (t.a[j0] = t.a[n]))) (by show some _ = _; rw [tm_eq]) ?_
                  refine go_nil ?_
                  refine go_env [(0, _), (4, _), (7, _), (8, _), (13, _), (14, _), (15, _), (16, _), (17, _), (129, _)] ⟨rfl, rfl, rfl, rfl, rfl, rfl, rfl, rfl, rfl, rfl, trivial⟩ ?_
                  refine go_cond rfl ?_ ?_
                  · intro g6
                    (try simp only [decide_eq_true_eq, decide_eq_false_iff_not, Bool.not_eq_true', Bool.not_eq_false', Bool.not_eq_eq_eq_not, Bool.not_true, Bool.not_false, Int.not_lt, Int.not_le, beq_iff_eq, beq_eq_false_iff_ne, ne_eq] at g6)
                    refine go_elem_int (xs := syms (args l)) (by repeat constructor) k (List.getElem?_eq_getElem (by omega)) (fun b8 o8 hA => ?_); cases hA
                    refine go_draw'  [1, 6] (SL.pre [(1, 0), (1, 2), (1, 3), (1, 4), (1, 5), (2, 1), (2, 6), (1, 7), (1, 8), (0, 9)] .nil) mixed rfl (by kernel_rfl) ?_
                    refine go_pure1 Tk rfl rfl rfl ?_
                    refine go_pure1 Tk rfl rfl rfl ?_
                    refine go_pure1 Tk rfl rfl rfl ?_
                    refine go_pure1 Tk rfl rfl rfl ?_
                    refine go_val1 rfl (idx_val Tk rfl rfl rfl rfl rfl (by omega)) rfl ?_
                    refine go_val2 rfl (load_val Tk rfl rfl rfl (by first | exact at_pt (by repeat constructor) (by rfl) | exact at_cl 0 (by repeat constructor) (by rfl) | exact at_cl 1 (by repeat constructor) (by rfl) | exact at_cl 2 (by repeat constructor) (by rfl) | exact at_cl 3 (by repeat constructor) (by rfl) | exact at_cl 4 (by repeat constructor) (by rfl) | exact at_cl 5 (by repeat constructor) (by rfl) | exact at_cl 6 (by repeat constructor) (by rfl) | exact at_cl 7 (by repeat constructor) (by rfl)) (by rfl)) (by repeat constructor) (by repeat constructor) rfl ?_
                    refine go_val2 rfl (load_val Tk rfl rfl rfl (by first | exact at_pt (by repeat constructor) (by rfl) | exact at_cl 0 (by repeat constructor) (by rfl) | exact at_cl 1 (by repeat constructor) (by rfl) | exact at_cl 2 (by repeat constructor) (by rfl) | exact at_cl 3 (by repeat constructor) (by rfl) | exact at_cl 4 (by repeat constructor) (by rfl) | exact at_cl 5 (by repeat constructor) (by rfl) | exact at_cl 6 (by repeat constructor) (by rfl) | exact at_cl 7 (by repeat constructor) (by rfl)) (by rfl)) (by repeat constructor) (by repeat constructor) rfl ?_
                    refine go_val1 rfl (fun a w hp ho hf hs => build_val Tk rfl rfl rfl (by rfl) a w hf) rfl ?_
                    refine go_val1 rfl (idx_val Tk rfl rfl rfl rfl rfl (by omega)) rfl ?_
                    refine go_store_el (T := tTm) (xs := subs t.a t.a[j0] (syms (args l))[k] n) (j := n) Tk (⟨false, (syms (args l))[k]⟩ : Tm) rfl rfl rfl rfl rfl rfl (by repeat constructor) (by omega) rfl rfl ent_tm (by first | exact (fun h => nomatch h) | exact (fun h => nomatch (Eq.symm h).trans (show _ = false by kernel_rfl))) ?_
                    refine go_nil ?_
                    refine go_env [(0, _), (4, _), (7, _), (8, _), (13, _), (14, _), (15, _), (16, _), (17, _)] ⟨rfl, rfl, rfl, rfl, rfl, rfl, rfl, rfl, rfl, trivial⟩ ?_
                    refine go_blk ?_
                    refine go_region rfl ?_
                    refine go_pure0 Tk rfl rfl rfl ?_
                    refine go_pure0 Tk rfl rfl rfl ?_
                    refine go_pure0 Tk rfl rfl rfl ?_
                    refine go_nil ?_
                    refine go_i64 17 rfl (by omega) (by omega) ?_
                    refine go_imp (ol tTm 78 (some ⟨b1, 0, none⟩) d1 ((subs t.a t.a[j0] (syms (args l))[k] n).set n ⟨false, (syms (args l))[k]⟩)) [ol tTm 78 (some ⟨b1, 0, none⟩) d1 (subs t.a t.a[j0] (syms (args l))[k] (n + 1))] (by repeat constructor) (fun _ _ q => sep_one (by rw [subs_yes (by omega) g6]; exact q)) ?_
                    refine go_back (n + 1) ⟨rfl, rfl, rfl, rfl, rfl, rfl, rfl, rfl, rfl, trivial⟩ (by repeat constructor) (by repeat constructor) (by omega) (by omega)
                  · intro g6
                    (try simp only [decide_eq_true_eq, decide_eq_false_iff_not, Bool.not_eq_true', Bool.not_eq_false', Bool.not_eq_eq_eq_not, Bool.not_true, Bool.not_false, Int.not_lt, Int.not_le, beq_iff_eq, beq_eq_false_iff_ne, ne_eq] at g6)
                    refine go_skip ?_
                    refine go_blk ?_
                    refine go_region rfl ?_
                    refine go_pure0 Tk rfl rfl rfl ?_
                    refine go_pure0 Tk rfl rfl rfl ?_
                    refine go_pure0 Tk rfl rfl rfl ?_
                    refine go_nil ?_
                    refine go_i64 17 rfl (by omega) (by omega) ?_
                    refine go_imp (ol tTm 78 (some ⟨b1, 0, none⟩) d1 (subs t.a t.a[j0] (syms (args l))[k] n)) [ol tTm 78 (some ⟨b1, 0, none⟩) d1 (subs t.a t.a[j0] (syms (args l))[k] (n + 1))] (by repeat constructor) (fun _ _ q => sep_one (by rw [subs_no (by omega) g6]; exact q)) ?_
                    refine go_back (n + 1) ⟨rfl, rfl, rfl, rfl, rfl, rfl, rfl, rfl, rfl, trivial⟩ (by repeat constructor) (by repeat constructor) (by omega) (by omega)
                · intro hq7
                  refine go_exit rfl ?_
                  refine go_seq ?_
                  obtain rfl : n = t.a.length := by omega
                  refine go_imp (ol tTm 78 (some ⟨b1, 0, none⟩) d1 (subs t.a t.a[j0] (syms (args l))[k] t.a.length)) [ol tTm 78 (some ⟨b1, 0, none⟩) d1 (subA t t.a[j0] (syms (args l))[k]).a] (by repeat constructor) (fun _ _ q => sep_one (by rw [← subs_all]; exact q)) ?_
                  have hsa : (subA t t.a[j0] (syms (args l))[k]).a.length = t.a.length := by simp [subA]
                  refine go_freeze_ol (xs := (subA t t.a[j0] (syms (args l))[k]).a) (by repeat constructor) ?_
                  have hs0 : 0 ≤ (syms (args l))[k] := syms_ok gl (List.getElem_mem _)
                  refine go_region rfl ?_
                  refine go_pure0 Tk rfl rfl rfl ?_
                  refine go_val0 rfl (load_val Tk rfl rfl rfl (by first | exact at_pt (by repeat constructor) (by rfl) | exact at_cl 0 (by repeat constructor) (by rfl) | exact at_cl 1 (by repeat constructor) (by rfl) | exact at_cl 2 (by repeat constructor) (by rfl) | exact at_cl 3 (by repeat constructor) (by rfl) | exact at_cl 4 (by repeat constructor) (by rfl) | exact at_cl 5 (by repeat constructor) (by rfl) | exact at_cl 6 (by repeat constructor) (by rfl) | exact at_cl 7 (by repeat constructor) (by rfl)) (by rfl)) rfl ?_
                  refine go_re 140 (.agg #[.int .u32 (subA t t.a[j0] (syms (args l))[k]).p, .slice (some ⟨b1, 0, none⟩) (subA t t.a[j0] (syms (args l))[k]).a.length d1]) (by show some _ = some _; rw [hsa]; rfl) ?_
                  refine go_call (queryAsk LA lc l (subA t t.a[j0] (syms (args l))[k]) (some ⟨b1, 0, none⟩) d1 (subA_ok ha hs0) (by omega) hN hB) rfl rfl (by rfl) rfl (by repeat constructor) (by repeat constructor) (fun h => nomatch h) ?_
                  rintro _ _ _ ⟨B2, d2, rfl, rfl, rfl⟩
                  refine go_freeze_ol (A := B2) (xs := fof (l.filter (mtch (subA t t.a[j0] (syms (args l))[k])))) (by repeat constructor) ?_
                  refine go_pure0 Tk rfl rfl rfl ?_
                  refine go_nil ?_
                  refine go_env [(0, _), (4, _), (7, _), (8, _), (13, _), (14, _), (15, _), (18, _)] ⟨rfl, rfl, rfl, rfl, rfl, rfl, rfl, rfl, trivial⟩ ?_
                  refine go_seq ?_
                  refine go_seq ?_
                  refine go_len (xs := fof (l.filter (mtch (subA t t.a[j0] (syms (args l))[k])))) (by repeat constructor) (fun ly my => ?_)
                  refine go_region rfl ?_
                  refine go_pure0 Tk rfl rfl rfl ?_
                  refine go_nil ?_
                  refine go_env [(0, _), (4, _), (7, _), (8, _), (13, _), (14, _), (15, _), (18, _), (19, _)] ⟨rfl, rfl, rfl, rfl, rfl, rfl, rfl, rfl, rfl, trivial⟩ ?_
                  refine go_block ?_
                  refine go_loop' (X := Nat) (fun m => [(19, .int .i64 (m : Int))]) [(0, _), (4, _), (7, _), (8, _), (13, _), (14, _), (15, _), (18, _)] (fun _ => []) (fun m => m ≤ (fof (l.filter (mtch (subA t t.a[j0] (syms (args l))[k])))).length) (fun m => (fof (l.filter (mtch (subA t t.a[j0] (syms (args l))[k])))).length - m) (0) ⟨rfl, rfl, rfl, rfl, rfl, rfl, rfl, rfl, rfl, trivial⟩ (by repeat constructor) (by omega) ?_
                  intro m hm3
                  refine go_seq ?_
                  refine go_seq ?_
                  refine go_region rfl ?_
                  refine go_pure0 Tk rfl rfl rfl ?_
                  refine go_pure0 Tk rfl rfl rfl ?_
                  refine go_pure0 Tk rfl rfl rfl ?_
                  refine go_pure0 Tk rfl rfl rfl ?_
                  refine go_nil ?_
                  refine go_env [(0, _), (4, _), (7, _), (8, _), (13, _), (14, _), (15, _), (18, _), (19, _), (145, _)] ⟨rfl, rfl, rfl, rfl, rfl, rfl, rfl, rfl, rfl, rfl, trivial⟩ ?_
                  refine go_condD rfl ?_ ?_
                  · intro hq8
                    refine go_skip ?_
                    refine go_seq ?_
                    refine go_block ?_
                    refine go_seq ?_
                    refine go_elem_fa (xs := fof (l.filter (mtch (subA t t.a[j0] (syms (args l))[k])))) (by repeat constructor) (m) (List.getElem?_eq_getElem (by omega)) (fun b9 o9 A9' c9' hA => ?_); cases hA
                    refine go_region rfl ?_
                    refine go_pure0 Tk rfl rfl rfl ?_
                    refine go_pure0 Tk rfl rfl rfl ?_
                    refine go_pure0 Tk rfl rfl rfl ?_
                    refine go_val0 rfl (idx_val Tk rfl rfl rfl rfl rfl (by omega)) rfl ?_
                    refine go_val0 rfl (load_val Tk rfl rfl rfl (by first | exact at_pt (by repeat constructor) (by rfl) | exact at_cl 0 (by repeat constructor) (by rfl) | exact at_cl 1 (by repeat constructor) (by rfl) | exact at_cl 2 (by repeat constructor) (by rfl) | exact at_cl 3 (by repeat constructor) (by rfl) | exact at_cl 4 (by repeat constructor) (by rfl) | exact at_cl 5 (by repeat constructor) (by rfl) | exact at_cl 6 (by repeat constructor) (by rfl) | exact at_cl 7 (by repeat constructor) (by rfl)) (by rfl)) rfl ?_
                    refine go_call (ref13Has A9 c9 (fof (l.filter (mtch t))) (fof (l.filter (mtch (subA t t.a[j0] (syms (args l))[k]))))[m] A9' c9') rfl rfl (by rfl) rfl (by repeat constructor) (by repeat constructor) (fun h => nomatch h) ?_
                    rintro _ _ _ ⟨rfl, rfl, rfl⟩
                    refine go_pure0 Tk rfl rfl rfl ?_
                    refine go_re 154 (.bool false) (by show some (Value.bool _) = _; simp [part_in hjt hv (List.getElem_mem _)]) ?_
                    refine go_nil ?_
                    refine go_env [(0, _), (4, _), (7, _), (8, _), (13, _), (14, _), (15, _), (18, _), (19, _), (154, _)] ⟨rfl, rfl, rfl, rfl, rfl, rfl, rfl, rfl, rfl, rfl, trivial⟩ ?_
                    refine go_cond_f rfl ?_
                    refine go_skip ?_
                    refine go_blk ?_
                    refine go_region rfl ?_
                    refine go_pure0 Tk rfl rfl rfl ?_
                    refine go_pure0 Tk rfl rfl rfl ?_
                    refine go_pure0 Tk rfl rfl rfl ?_
                    refine go_nil ?_
                    refine go_i64 19 rfl (by omega) (by omega) ?_
                    refine go_back (m + 1) ⟨rfl, rfl, rfl, rfl, rfl, rfl, rfl, rfl, rfl, trivial⟩ (by repeat constructor) (by repeat constructor) (by omega) (by omega)
                  · intro hq8
                    refine go_exit rfl ?_
                    have hys : (fof (l.filter (mtch (subA t t.a[j0] (syms (args l))[k])))).length ≤ l.length := Nat.le_trans (fof_len _) (List.length_filter_le _ _)
                    refine go_region rfl ?_
                    refine go_pure0 Tk rfl rfl rfl ?_
                    refine go_pure0 Tk rfl rfl rfl ?_
                    refine go_pure0 Tk rfl rfl rfl ?_
                    refine go_pure0 Tk rfl rfl rfl ?_
                    refine go_i64 158 rfl (by omega) (by omega) ?_
                    refine go_pure0 Tk rfl rfl rfl ?_
                    refine go_nil ?_
                    refine go_env [(0, _), (4, _), (7, _), (8, _), (13, _), (14, _), (15, _)] ⟨rfl, rfl, rfl, rfl, rfl, rfl, rfl, trivial⟩ ?_
                    refine go_blk ?_
                    refine go_region rfl ?_
                    refine go_pure0 Tk rfl rfl rfl ?_
                    refine go_pure0 Tk rfl rfl rfl ?_
                    refine go_pure0 Tk rfl rfl rfl ?_
                    refine go_nil ?_
                    refine go_i64 15 rfl (by omega) (by omega) ?_
                    refine go_re 14 (.int .i64 (parts l t t.a[j0] ((syms (args l)).take (k + 1)) : Int)) (by show some (Value.int _ _) = _; rw [parts_next (by omega)]; rfl) ?_
                    refine go_back (k + 1) ⟨rfl, rfl, rfl, rfl, rfl, rfl, rfl, trivial⟩ (by repeat constructor) (by repeat constructor) (by omega) (by omega)
              refine go_alloc Tk rfl rfl rfl (by rfl) rfl rfl (fun _ _ => satS (by repeat constructor) (by repeat constructor)) ?_
              intro ba
              refine go_bslice Tk rfl rfl rfl rfl rfl rfl rfl rfl (fun _ _ => satS (by repeat constructor) (by repeat constructor)) ?_
              intro bc
              refine go_lit_ol (b := bc) tTm [] (by repeat constructor) (fun _ _ => rfl) (by simp) ?_
              refine go_appendN (T := tTm) (xs := []) (ys := t.a) Tk rfl rfl rfl rfl rfl rfl rfl rfl rfl (by repeat constructor) rfl (by repeat constructor) (by simp; omega) (by first | exact (fun _ _ _ => satS (by repeat constructor) (by repeat constructor)) | exact (fun h => nomatch h) | exact (fun h => nomatch (Eq.symm h).trans (show _ = false by kernel_rfl))) ?_
              intro B1 d1
              rw [List.nil_append t.a]
              refine go_val1 rfl (fun a w hp ho hf hs => build_val Tk rfl rfl rfl (by rfl) a w hf) rfl ?_
              refine go_store Tk rfl rfl rfl rfl rfl rfl (by repeat constructor) rfl rfl (by rfl) (fun h => nomatch h) ?_
              refine go_nil ?_
              refine go_env [(0, _), (4, _), (7, _), (8, _), (13, _), (14, _), (15, _), (16, _)] ⟨rfl, rfl, rfl, rfl, rfl, rfl, rfl, rfl, trivial⟩ ?_
              refine go_seq ?_
              refine go_seq ?_
              refine go_ol_addr (xs := t.a) (by repeat constructor) (by omega) (fun b1 hA => ?_); subst hA
              refine go_imp (ol tTm 78 (some ⟨b1, 0, none⟩) d1 t.a) [ol tTm 78 (some ⟨b1, 0, none⟩) d1 (subs t.a t.a[j0] (syms (args l))[k] 0)] (by repeat constructor) (fun _ _ q => sep_one (by simpa [subs] using q)) ?_
              refine go_region rfl ?_
              refine go_pure0 Tk rfl rfl rfl ?_
              refine go_nil ?_
              refine go_env [(0, _), (4, _), (7, _), (8, _), (13, _), (14, _), (15, _), (16, _), (17, _)] ⟨rfl, rfl, rfl, rfl, rfl, rfl, rfl, rfl, rfl, trivial⟩ ?_
              refine go_block ?_
              refine go_loop' (X := Nat) (fun n => [(17, .int .i64 (n : Int))]) [(0, _), (4, _), (7, _), (8, _), (13, _), (14, _), (15, _), (16, _)] (fun n => [ol tTm 78 (some ⟨b1, 0, none⟩) d1 (subs t.a t.a[j0] (syms (args l))[k] n)]) (fun n => n ≤ t.a.length) (fun n => t.a.length - n) (0) ⟨rfl, rfl, rfl, rfl, rfl, rfl, rfl, rfl, rfl, trivial⟩ (by repeat constructor) (by omega) ?_
              intro n hn2
              have hsl2 := subs_len t.a t.a[j0] (syms (args l))[k] n
              refine go_seq ?_
              refine go_seq ?_
              refine go_region rfl ?_
              refine go_pure0 Tk rfl rfl rfl ?_
              refine go_pure0 Tk rfl rfl rfl ?_
              refine go_val0 rfl (load_val Tk rfl rfl rfl (by first | exact at_pt (by repeat constructor) (by rfl) | exact at_cl 0 (by repeat constructor) (by rfl) | exact at_cl 1 (by repeat constructor) (by rfl) | exact at_cl 2 (by repeat constructor) (by rfl) | exact at_cl 3 (by repeat constructor) (by rfl) | exact at_cl 4 (by repeat constructor) (by rfl) | exact at_cl 5 (by repeat constructor) (by rfl) | exact at_cl 6 (by repeat constructor) (by rfl) | exact at_cl 7 (by repeat constructor) (by rfl)) (by rfl)) rfl ?_
              refine go_pure0 Tk rfl rfl rfl ?_
              refine go_pure0 Tk rfl rfl rfl ?_
              refine go_nil ?_
              refine go_env [(0, _), (4, _), (7, _), (8, _), (13, _), (14, _), (15, _), (16, _), (17, _), (120, _)] ⟨rfl, rfl, rfl, rfl, rfl, rfl, rfl, rfl, rfl, rfl, trivial⟩ ?_
              refine go_condD rfl ?_ ?_
              · intro hq9
                refine go_skip ?_
                refine go_seq ?_
                refine go_block ?_
                refine go_seq ?_
                refine go_draw'  [1, 4, 5] (SL.pre [(1, 0), (1, 2), (2, 1), (1, 3), (2, 4), (2, 5), (1, 6)] .nil) mixed rfl (by kernel_rfl) ?_
                refine go_pure1 Tk rfl rfl rfl ?_
                refine go_pure1 Tk rfl rfl rfl ?_
                refine go_val2 rfl (load_val Tk rfl rfl rfl (by first | exact at_pt (by repeat constructor) (by rfl) | exact at_cl 0 (by repeat constructor) (by rfl) | exact at_cl 1 (by repeat constructor) (by rfl) | exact at_cl 2 (by repeat constructor) (by rfl) | exact at_cl 3 (by repeat constructor) (by rfl) | exact at_cl 4 (by repeat constructor) (by rfl) | exact at_cl 5 (by repeat constructor) (by rfl) | exact at_cl 6 (by repeat constructor) (by rfl) | exact at_cl 7 (by repeat constructor) (by rfl)) (by rfl)) (by repeat constructor) (by repeat constructor) rfl ?_
                refine go_val1 rfl (idx_val Tk rfl rfl rfl rfl rfl (by omega)) rfl ?_
                refine go_val2 rfl (load_val Tk rfl rfl rfl (at_olp fcT fcT_eq (xs := subs t.a t.a[j0] (syms (args l))[k] n) (by repeat constructor) n (subs_get (by omega)) rfl rfl) rfl) (by repeat constructor) (by repeat constructor) rfl ?_
                refine go_val2 rfl (load_val Tk rfl rfl rfl (by first | exact at_pt (by repeat constructor) (by rfl) | exact at_cl 0 (by repeat constructor) (by rfl) | exact at_cl 1 (by repeat constructor) (by rfl) | exact at_cl 2 (by repeat constructor) (by rfl) | exact at_cl 3 (by repeat constructor) (by rfl) | exact at_cl 4 (by repeat constructor) (by rfl) | exact at_cl 5 (by repeat constructor) (by rfl) | exact at_cl 6 (by repeat constructor) (by rfl) | exact at_cl 7 (by repeat constructor) (by rfl)) (by rfl)) (by repeat constructor) (by repeat constructor) rfl ?_
                refine go_val1 rfl (seq_val Tk rfl rfl rfl rfl (by rfl) rfl (by kernel_rfl) (by kernel_rfl)) rfl ?_
                refine go_re 129 (.bool (decide (t.a[j0] = t.a[n]))) (by show some _ = _; rw [tm_eq]) ?_
                refine go_nil ?_
                refine go_env [(0, _), (4, _), (7, _), (8, _), (13, _), (14, _), (15, _), (16, _), (17, _), (129, _)] ⟨rfl, rfl, rfl, rfl, rfl, rfl, rfl, rfl, rfl, rfl, trivial⟩ ?_
                refine go_cond rfl ?_ ?_
                · intro g6
                  (try simp only [decide_eq_true_eq, decide_eq_false_iff_not, Bool.not_eq_true', Bool.not_eq_false', Bool.not_eq_eq_eq_not, Bool.not_true, Bool.not_false, Int.not_lt, Int.not_le, beq_iff_eq, beq_eq_false_iff_ne, ne_eq] at g6)
                  refine go_elem_int (xs := syms (args l)) (by repeat constructor) k (List.getElem?_eq_getElem (by omega)) (fun b8 o8 hA => ?_); cases hA
                  refine go_draw'  [1, 6] (SL.pre [(1, 0), (1, 2), (1, 3), (1, 4), (1, 5), (2, 1), (2, 6), (1, 7), (1, 8), (0, 9)] .nil) mixed rfl (by kernel_rfl) ?_
                  refine go_pure1 Tk rfl rfl rfl ?_
                  refine go_pure1 Tk rfl rfl rfl ?_
                  refine go_pure1 Tk rfl rfl rfl ?_
                  refine go_pure1 Tk rfl rfl rfl ?_
                  refine go_val1 rfl (idx_val Tk rfl rfl rfl rfl rfl (by omega)) rfl ?_
                  refine go_val2 rfl (load_val Tk rfl rfl rfl (by first | exact at_pt (by repeat constructor) (by rfl) | exact at_cl 0 (by repeat constructor) (by rfl) | exact at_cl 1 (by repeat constructor) (by rfl) | exact at_cl 2 (by repeat constructor) (by rfl) | exact at_cl 3 (by repeat constructor) (by rfl) | exact at_cl 4 (by repeat constructor) (by rfl) | exact at_cl 5 (by repeat constructor) (by rfl) | exact at_cl 6 (by repeat constructor) (by rfl) | exact at_cl 7 (by repeat constructor) (by rfl)) (by rfl)) (by repeat constructor) (by repeat constructor) rfl ?_
                  refine go_val2 rfl (load_val Tk rfl rfl rfl (by first | exact at_pt (by repeat constructor) (by rfl) | exact at_cl 0 (by repeat constructor) (by rfl) | exact at_cl 1 (by repeat constructor) (by rfl) | exact at_cl 2 (by repeat constructor) (by rfl) | exact at_cl 3 (by repeat constructor) (by rfl) | exact at_cl 4 (by repeat constructor) (by rfl) | exact at_cl 5 (by repeat constructor) (by rfl) | exact at_cl 6 (by repeat constructor) (by rfl) | exact at_cl 7 (by repeat constructor) (by rfl)) (by rfl)) (by repeat constructor) (by repeat constructor) rfl ?_
                  refine go_val1 rfl (fun a w hp ho hf hs => build_val Tk rfl rfl rfl (by rfl) a w hf) rfl ?_
                  refine go_val1 rfl (idx_val Tk rfl rfl rfl rfl rfl (by omega)) rfl ?_
                  refine go_store_el (T := tTm) (xs := subs t.a t.a[j0] (syms (args l))[k] n) (j := n) Tk (⟨false, (syms (args l))[k]⟩ : Tm) rfl rfl rfl rfl rfl rfl (by repeat constructor) (by omega) rfl rfl ent_tm (by first | exact (fun h => nomatch h) | exact (fun h => nomatch (Eq.symm h).trans (show _ = false by kernel_rfl))) ?_
                  refine go_nil ?_
                  refine go_env [(0, _), (4, _), (7, _), (8, _), (13, _), (14, _), (15, _), (16, _), (17, _)] ⟨rfl, rfl, rfl, rfl, rfl, rfl, rfl, rfl, rfl, trivial⟩ ?_
                  refine go_blk ?_
                  refine go_region rfl ?_
                  refine go_pure0 Tk rfl rfl rfl ?_
                  refine go_pure0 Tk rfl rfl rfl ?_
                  refine go_pure0 Tk rfl rfl rfl ?_
                  refine go_nil ?_
                  refine go_i64 17 rfl (by omega) (by omega) ?_
                  refine go_imp (ol tTm 78 (some ⟨b1, 0, none⟩) d1 ((subs t.a t.a[j0] (syms (args l))[k] n).set n ⟨false, (syms (args l))[k]⟩)) [ol tTm 78 (some ⟨b1, 0, none⟩) d1 (subs t.a t.a[j0] (syms (args l))[k] (n + 1))] (by repeat constructor) (fun _ _ q => sep_one (by rw [subs_yes (by omega) g6]; exact q)) ?_
                  refine go_back (n + 1) ⟨rfl, rfl, rfl, rfl, rfl, rfl, rfl, rfl, rfl, trivial⟩ (by repeat constructor) (by repeat constructor) (by omega) (by omega)
                · intro g6
                  (try simp only [decide_eq_true_eq, decide_eq_false_iff_not, Bool.not_eq_true', Bool.not_eq_false', Bool.not_eq_eq_eq_not, Bool.not_true, Bool.not_false, Int.not_lt, Int.not_le, beq_iff_eq, beq_eq_false_iff_ne, ne_eq] at g6)
                  refine go_skip ?_
                  refine go_blk ?_
                  refine go_region rfl ?_
                  refine go_pure0 Tk rfl rfl rfl ?_
                  refine go_pure0 Tk rfl rfl rfl ?_
                  refine go_pure0 Tk rfl rfl rfl ?_
                  refine go_nil ?_
                  refine go_i64 17 rfl (by omega) (by omega) ?_
                  refine go_imp (ol tTm 78 (some ⟨b1, 0, none⟩) d1 (subs t.a t.a[j0] (syms (args l))[k] n)) [ol tTm 78 (some ⟨b1, 0, none⟩) d1 (subs t.a t.a[j0] (syms (args l))[k] (n + 1))] (by repeat constructor) (fun _ _ q => sep_one (by rw [subs_no (by omega) g6]; exact q)) ?_
                  refine go_back (n + 1) ⟨rfl, rfl, rfl, rfl, rfl, rfl, rfl, rfl, rfl, trivial⟩ (by repeat constructor) (by repeat constructor) (by omega) (by omega)
              · intro hq9
                refine go_exit rfl ?_
                refine go_seq ?_
                obtain rfl : n = t.a.length := by omega
                refine go_imp (ol tTm 78 (some ⟨b1, 0, none⟩) d1 (subs t.a t.a[j0] (syms (args l))[k] t.a.length)) [ol tTm 78 (some ⟨b1, 0, none⟩) d1 (subA t t.a[j0] (syms (args l))[k]).a] (by repeat constructor) (fun _ _ q => sep_one (by rw [← subs_all]; exact q)) ?_
                have hsa : (subA t t.a[j0] (syms (args l))[k]).a.length = t.a.length := by simp [subA]
                refine go_freeze_ol (xs := (subA t t.a[j0] (syms (args l))[k]).a) (by repeat constructor) ?_
                have hs0 : 0 ≤ (syms (args l))[k] := syms_ok gl (List.getElem_mem _)
                refine go_region rfl ?_
                refine go_pure0 Tk rfl rfl rfl ?_
                refine go_val0 rfl (load_val Tk rfl rfl rfl (by first | exact at_pt (by repeat constructor) (by rfl) | exact at_cl 0 (by repeat constructor) (by rfl) | exact at_cl 1 (by repeat constructor) (by rfl) | exact at_cl 2 (by repeat constructor) (by rfl) | exact at_cl 3 (by repeat constructor) (by rfl) | exact at_cl 4 (by repeat constructor) (by rfl) | exact at_cl 5 (by repeat constructor) (by rfl) | exact at_cl 6 (by repeat constructor) (by rfl) | exact at_cl 7 (by repeat constructor) (by rfl)) (by rfl)) rfl ?_
                refine go_re 140 (.agg #[.int .u32 (subA t t.a[j0] (syms (args l))[k]).p, .slice (some ⟨b1, 0, none⟩) (subA t t.a[j0] (syms (args l))[k]).a.length d1]) (by show some _ = some _; rw [hsa]; rfl) ?_
                refine go_call (queryAsk LA lc l (subA t t.a[j0] (syms (args l))[k]) (some ⟨b1, 0, none⟩) d1 (subA_ok ha hs0) (by omega) hN hB) rfl rfl (by rfl) rfl (by repeat constructor) (by repeat constructor) (fun h => nomatch h) ?_
                rintro _ _ _ ⟨B2, d2, rfl, rfl, rfl⟩
                refine go_freeze_ol (A := B2) (xs := fof (l.filter (mtch (subA t t.a[j0] (syms (args l))[k])))) (by repeat constructor) ?_
                refine go_pure0 Tk rfl rfl rfl ?_
                refine go_nil ?_
                refine go_env [(0, _), (4, _), (7, _), (8, _), (13, _), (14, _), (15, _), (18, _)] ⟨rfl, rfl, rfl, rfl, rfl, rfl, rfl, rfl, trivial⟩ ?_
                refine go_seq ?_
                refine go_seq ?_
                refine go_len (xs := fof (l.filter (mtch (subA t t.a[j0] (syms (args l))[k])))) (by repeat constructor) (fun ly my => ?_)
                refine go_region rfl ?_
                refine go_pure0 Tk rfl rfl rfl ?_
                refine go_nil ?_
                refine go_env [(0, _), (4, _), (7, _), (8, _), (13, _), (14, _), (15, _), (18, _), (19, _)] ⟨rfl, rfl, rfl, rfl, rfl, rfl, rfl, rfl, rfl, trivial⟩ ?_
                refine go_block ?_
                refine go_loop' (X := Nat) (fun m => [(19, .int .i64 (m : Int))]) [(0, _), (4, _), (7, _), (8, _), (13, _), (14, _), (15, _), (18, _)] (fun _ => []) (fun m => m ≤ (fof (l.filter (mtch (subA t t.a[j0] (syms (args l))[k])))).length) (fun m => (fof (l.filter (mtch (subA t t.a[j0] (syms (args l))[k])))).length - m) (0) ⟨rfl, rfl, rfl, rfl, rfl, rfl, rfl, rfl, rfl, trivial⟩ (by repeat constructor) (by omega) ?_
                intro m hm3
                refine go_seq ?_
                refine go_seq ?_
                refine go_region rfl ?_
                refine go_pure0 Tk rfl rfl rfl ?_
                refine go_pure0 Tk rfl rfl rfl ?_
                refine go_pure0 Tk rfl rfl rfl ?_
                refine go_pure0 Tk rfl rfl rfl ?_
                refine go_nil ?_
                refine go_env [(0, _), (4, _), (7, _), (8, _), (13, _), (14, _), (15, _), (18, _), (19, _), (145, _)] ⟨rfl, rfl, rfl, rfl, rfl, rfl, rfl, rfl, rfl, rfl, trivial⟩ ?_
                refine go_condD rfl ?_ ?_
                · intro hq10
                  refine go_skip ?_
                  refine go_seq ?_
                  refine go_block ?_
                  refine go_seq ?_
                  refine go_elem_fa (xs := fof (l.filter (mtch (subA t t.a[j0] (syms (args l))[k])))) (by repeat constructor) (m) (List.getElem?_eq_getElem (by omega)) (fun b9 o9 A9' c9' hA => ?_); cases hA
                  refine go_region rfl ?_
                  refine go_pure0 Tk rfl rfl rfl ?_
                  refine go_pure0 Tk rfl rfl rfl ?_
                  refine go_pure0 Tk rfl rfl rfl ?_
                  refine go_val0 rfl (idx_val Tk rfl rfl rfl rfl rfl (by omega)) rfl ?_
                  refine go_val0 rfl (load_val Tk rfl rfl rfl (by first | exact at_pt (by repeat constructor) (by rfl) | exact at_cl 0 (by repeat constructor) (by rfl) | exact at_cl 1 (by repeat constructor) (by rfl) | exact at_cl 2 (by repeat constructor) (by rfl) | exact at_cl 3 (by repeat constructor) (by rfl) | exact at_cl 4 (by repeat constructor) (by rfl) | exact at_cl 5 (by repeat constructor) (by rfl) | exact at_cl 6 (by repeat constructor) (by rfl) | exact at_cl 7 (by repeat constructor) (by rfl)) (by rfl)) rfl ?_
                  refine go_call (ref13Has A9 c9 (fof (l.filter (mtch t))) (fof (l.filter (mtch (subA t t.a[j0] (syms (args l))[k]))))[m] A9' c9') rfl rfl (by rfl) rfl (by repeat constructor) (by repeat constructor) (fun h => nomatch h) ?_
                  rintro _ _ _ ⟨rfl, rfl, rfl⟩
                  refine go_pure0 Tk rfl rfl rfl ?_
                  refine go_re 154 (.bool false) (by show some (Value.bool _) = _; simp [part_in hjt hv (List.getElem_mem _)]) ?_
                  refine go_nil ?_
                  refine go_env [(0, _), (4, _), (7, _), (8, _), (13, _), (14, _), (15, _), (18, _), (19, _), (154, _)] ⟨rfl, rfl, rfl, rfl, rfl, rfl, rfl, rfl, rfl, rfl, trivial⟩ ?_
                  refine go_cond_f rfl ?_
                  refine go_skip ?_
                  refine go_blk ?_
                  refine go_region rfl ?_
                  refine go_pure0 Tk rfl rfl rfl ?_
                  refine go_pure0 Tk rfl rfl rfl ?_
                  refine go_pure0 Tk rfl rfl rfl ?_
                  refine go_nil ?_
                  refine go_i64 19 rfl (by omega) (by omega) ?_
                  refine go_back (m + 1) ⟨rfl, rfl, rfl, rfl, rfl, rfl, rfl, rfl, rfl, trivial⟩ (by repeat constructor) (by repeat constructor) (by omega) (by omega)
                · intro hq10
                  refine go_exit rfl ?_
                  have hys : (fof (l.filter (mtch (subA t t.a[j0] (syms (args l))[k])))).length ≤ l.length := Nat.le_trans (fof_len _) (List.length_filter_le _ _)
                  refine go_region rfl ?_
                  refine go_pure0 Tk rfl rfl rfl ?_
                  refine go_pure0 Tk rfl rfl rfl ?_
                  refine go_pure0 Tk rfl rfl rfl ?_
                  refine go_pure0 Tk rfl rfl rfl ?_
                  refine go_i64 158 rfl (by omega) (by omega) ?_
                  refine go_pure0 Tk rfl rfl rfl ?_
                  refine go_nil ?_
                  refine go_env [(0, _), (4, _), (7, _), (8, _), (13, _), (14, _), (15, _)] ⟨rfl, rfl, rfl, rfl, rfl, rfl, rfl, trivial⟩ ?_
                  refine go_blk ?_
                  refine go_region rfl ?_
                  refine go_pure0 Tk rfl rfl rfl ?_
                  refine go_pure0 Tk rfl rfl rfl ?_
                  refine go_pure0 Tk rfl rfl rfl ?_
                  refine go_nil ?_
                  refine go_i64 15 rfl (by omega) (by omega) ?_
                  refine go_re 14 (.int .i64 (parts l t t.a[j0] ((syms (args l)).take (k + 1)) : Int)) (by show some (Value.int _ _) = _; rw [parts_next (by omega)]; rfl) ?_
                  refine go_back (k + 1) ⟨rfl, rfl, rfl, rfl, rfl, rfl, rfl, trivial⟩ (by repeat constructor) (by repeat constructor) (by omega) (by omega)
            · intro hq4
              refine go_exit rfl ?_
              refine go_seq ?_
              rw [List.take_of_length_le (show (syms (args l)).length ≤ k by omega), parts_all hjt hv]
              refine go_region rfl ?_
              refine go_pure0 Tk rfl rfl rfl ?_
              refine go_pure0 Tk rfl rfl rfl ?_
              refine go_pure0 Tk rfl rfl rfl ?_
              refine go_pure0 Tk rfl rfl rfl ?_
              refine go_re 162 (.bool true) (by show some (Value.bool _) = _; first | rfl | simp) ?_
              refine go_pure0 Tk rfl rfl rfl ?_
              refine go_call (lawWorks16) rfl rfl (by rfl) rfl (by repeat constructor) (by repeat constructor) (fun h => nomatch h) ?_
              rintro _ _ _ ⟨rfl, rfl, rfl⟩
              refine go_pure0 Tk rfl rfl rfl ?_
              refine go_pure0 Tk rfl rfl rfl ?_
              refine go_nil ?_
              refine go_env [(6, _)] ⟨rfl, trivial⟩ ?_
              refine go_ret ⟨rfl, rfl⟩ _ _ (fun a w hp ho hf hs => res1 (by rfl) (.tmp rfl) a w hp ho hf hs) ⟨rfl, rfl, rfl⟩ (by repeat constructor) (by repeat constructor)

end Go.Proofs.Ytdkfpgdfjnaciaa.SL
