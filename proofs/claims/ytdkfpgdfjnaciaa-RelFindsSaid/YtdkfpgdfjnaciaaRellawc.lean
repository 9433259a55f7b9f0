/- Contracts of functions of the program (Rellawc): what each call comes to, for the laws' proofs. -/
import Derived.Test.YtdkfpgdfjnaciaaRelr
import Derived.Test.YtdkfpgdfjnaciaaD8
set_option linter.unusedVariables false
set_option linter.unusedSimpArgs false
namespace Go.Proofs.Ytdkfpgdfjnaciaa.SL
open Go 

set_option maxHeartbeats 2000000 in
set_option maxRecDepth 20000 in
theorem lawRelFinds (l : List Fa) (LA : Option Addr) (lc : Nat) (gl : ∀ x ∈ l, x.ok) (t : Am) (TA : Option Addr) (tc : Nat) (gt : t.ok) :
    Spec Try.prog 9 #[.slice LA l.length lc, .agg #[.int .u32 t.p, .slice TA t.a.length tc]] [sl tFa LA lc l, sl tTm TA tc t.a] [] (fun v Ps' Os' => v = .bool true ∧ Ps' = [] ∧ Os' = []) := by
  refine spec_of (fn := Try.f9) (args := [.slice LA l.length lc, .agg #[.int .u32 t.p, .slice TA t.a.length tc]]) 149 Try.func9 rfl (by kernel_rfl) Try.ntmps9 (Nat.le_of_ble_eq_true rfl) (fun w0 hp0 hf0 => ?_)
  refine go_seq ?_
  refine go_region rfl ?_
  refine go_box Tk rfl rfl rfl rfl (by rfl) rfl rfl (fun h => nomatch h) ?_
  intro bt
  refine go_freeze_pt (b := bt) (by repeat constructor) ?_
  refine go_pure0 Tk rfl rfl rfl ?_
  refine go_nil ?_
  refine go_env [(0, _), (3, _)] ⟨rfl, rfl, trivial⟩ ?_
  refine go_seq ?_
  refine go_seq ?_
  refine go_len (xs := l) (by repeat constructor) (fun ll ml => ?_)
  refine go_len (xs := t.a) (by repeat constructor) (fun lt mt => ?_)
  refine go_region rfl ?_
  refine go_pure0 Tk rfl rfl rfl ?_
  refine go_call (lawFew LA lc l) rfl rfl (by rfl) rfl (by repeat constructor) (by repeat constructor) (fun h => nomatch h) ?_
  rintro _ _ _ ⟨rfl, rfl, rfl⟩
  refine go_pure0 Tk rfl rfl rfl ?_
  refine go_pure0 Tk rfl rfl rfl ?_
  refine go_known 17 rfl ?_ ?_
  · intro f1
    (try simp only [decide_eq_true_eq, decide_eq_false_iff_not, Bool.not_eq_true', Bool.not_eq_false', Bool.not_eq_eq_eq_not, Bool.not_true, Bool.not_false, Int.not_lt, Int.not_le, beq_iff_eq, beq_eq_false_iff_ne, ne_eq] at f1)
    refine go_skip0 rfl rfl ?_
    refine go_skip0 rfl rfl ?_
    refine go_skip0 rfl rfl ?_
    refine go_skip0 rfl rfl ?_
    refine go_pure0 Tk rfl rfl rfl ?_
    refine go_nil ?_
    refine go_env [(0, _), (3, _), (22, _)] ⟨rfl, rfl, rfl, trivial⟩ ?_
    refine go_cond_t rfl ?_
    refine go_seq ?_
    refine go_region rfl ?_
    refine go_call (lawWorks10) rfl rfl (by rfl) rfl (by repeat constructor) (by repeat constructor) (fun h => nomatch h) ?_
    rintro _ _ _ ⟨rfl, rfl, rfl⟩
    refine go_pure0 Tk rfl rfl rfl ?_
    refine go_nil ?_
    refine go_env [(4, _)] ⟨rfl, trivial⟩ ?_
    refine go_ret ⟨rfl, rfl⟩ _ _ (fun a w hp ho hf hs => res1 (by rfl) (.tmp rfl) a w hp ho hf hs) ⟨rfl, rfl, rfl⟩ (by repeat constructor) (by repeat constructor)
  · intro f1
    (try simp only [decide_eq_true_eq, decide_eq_false_iff_not, Bool.not_eq_true', Bool.not_eq_false', Bool.not_eq_eq_eq_not, Bool.not_true, Bool.not_false, Int.not_lt, Int.not_le, beq_iff_eq, beq_eq_false_iff_ne, ne_eq] at f1)
    refine go_pure0 Tk rfl rfl rfl ?_
    refine go_val0 rfl (load_val Tk rfl rfl rfl (by first | exact at_pt (by repeat constructor) (by rfl) | exact at_cl 0 (by repeat constructor) (by rfl) | exact at_cl 1 (by repeat constructor) (by rfl) | exact at_cl 2 (by repeat constructor) (by rfl) | exact at_cl 3 (by repeat constructor) (by rfl) | exact at_cl 4 (by repeat constructor) (by rfl) | exact at_cl 5 (by repeat constructor) (by rfl) | exact at_cl 6 (by repeat constructor) (by rfl) | exact at_cl 7 (by repeat constructor) (by rfl)) (by rfl)) rfl ?_
    refine go_pure0 Tk rfl rfl rfl ?_
    refine go_pure0 Tk rfl rfl rfl ?_
    refine go_pure0 Tk rfl rfl rfl ?_
    refine go_nil ?_
    refine go_env [(0, _), (3, _), (22, _)] ⟨rfl, rfl, rfl, trivial⟩ ?_
    refine go_cond rfl ?_ ?_
    · intro f2
      (try simp only [decide_eq_true_eq, decide_eq_false_iff_not, Bool.not_eq_true', Bool.not_eq_false', Bool.not_eq_eq_eq_not, Bool.not_true, Bool.not_false, Int.not_lt, Int.not_le, beq_iff_eq, beq_eq_false_iff_ne, ne_eq] at f2)
      refine go_seq ?_
      refine go_region rfl ?_
      refine go_call (lawWorks10) rfl rfl (by rfl) rfl (by repeat constructor) (by repeat constructor) (fun h => nomatch h) ?_
      rintro _ _ _ ⟨rfl, rfl, rfl⟩
      refine go_pure0 Tk rfl rfl rfl ?_
      refine go_nil ?_
      refine go_env [(4, _)] ⟨rfl, trivial⟩ ?_
      refine go_ret ⟨rfl, rfl⟩ _ _ (fun a w hp ho hf hs => res1 (by rfl) (.tmp rfl) a w hp ho hf hs) ⟨rfl, rfl, rfl⟩ (by repeat constructor) (by repeat constructor)
    · intro f2
      (try simp only [decide_eq_true_eq, decide_eq_false_iff_not, Bool.not_eq_true', Bool.not_eq_false', Bool.not_eq_eq_eq_not, Bool.not_true, Bool.not_false, Int.not_lt, Int.not_le, beq_iff_eq, beq_eq_false_iff_ne, ne_eq] at f2)
      refine go_skip ?_
      refine go_seq ?_
      have fl : fewF l = true := f1
      obtain ⟨hnl, hbl⟩ := fewF_iff.1 fl
      have hNl : l.length ≤ 1000000 := by omega
      have hBl : ∀ x ∈ l, x.a.length ≤ 100000 := fun x hx => Nat.le_trans (hbl x hx) (by omega)
      have Fl : Fine (fof l) := Fine.few fl
      have ha : ∀ x ∈ t.a, 0 ≤ x.n := fun x hx => (gt.2 x hx).1
      refine go_region rfl ?_
      refine go_pure0 Tk rfl rfl rfl ?_
      refine go_call (lawCopies LA lc l hNl hBl) rfl rfl (by rfl) rfl (by repeat constructor) (by repeat constructor) (fun h => nomatch h) ?_
      rintro _ _ _ ⟨A1, c1, rfl, rfl, rfl⟩
      refine go_freeze_dl (T := tFa) (A := A1) (by repeat constructor) ?_
      refine go_call (relOf A1 c1 l hNl hBl) rfl rfl (by rfl) rfl (by repeat constructor) (by repeat constructor) (fun h => nomatch h) ?_
      rintro _ _ _ ⟨br, rfl, rfl, rfl⟩
      refine go_freeze_rel (b := br) (by repeat constructor) ?_
      refine go_ent (relN (some ⟨br, 0, none⟩) (fof l)) (fun hh hps => relN_some (hps (relP br (fof l)) (by repeat constructor))) ?_
      refine go_pure0 Tk rfl rfl rfl ?_
      refine go_nil ?_
      refine go_env [(3, _), (5, _)] ⟨rfl, rfl, trivial⟩ ?_
      refine go_seq ?_
      refine go_region rfl ?_
      refine go_pure0 Tk rfl rfl rfl ?_
      refine go_call (relListN (some ⟨br, 0, none⟩) (fof l) Fl.n Fl.b) rfl rfl (by rfl) rfl (by repeat constructor) (by repeat constructor) (fun h => nomatch h) ?_
      rintro _ _ _ ⟨A2, c2, rfl, rfl, rfl⟩
      refine go_freeze_dl (T := tFa) (A := A2) (by repeat constructor) ?_
      refine go_pure0 Tk rfl rfl rfl ?_
      refine go_nil ?_
      refine go_env [(3, _), (5, _), (6, _)] ⟨rfl, rfl, rfl, trivial⟩ ?_
      refine go_seq ?_
      refine go_region rfl ?_
      refine go_pure0 Tk rfl rfl rfl ?_
      refine go_val0 rfl (load_val Tk rfl rfl rfl (by first | exact at_pt (by repeat constructor) (by rfl) | exact at_cl 0 (by repeat constructor) (by rfl) | exact at_cl 1 (by repeat constructor) (by rfl) | exact at_cl 2 (by repeat constructor) (by rfl) | exact at_cl 3 (by repeat constructor) (by rfl) | exact at_cl 4 (by repeat constructor) (by rfl) | exact at_cl 5 (by repeat constructor) (by rfl) | exact at_cl 6 (by repeat constructor) (by rfl) | exact at_cl 7 (by repeat constructor) (by rfl)) (by rfl)) rfl ?_
      refine go_call (relFindN (some ⟨br, 0, none⟩) (fof l) t TA tc ha (by omega) Fl.n Fl.b) rfl rfl (by rfl) rfl (by repeat constructor) (by repeat constructor) (fun h => nomatch h) ?_
      rintro _ _ _ ⟨A3, c3, rfl, rfl, rfl⟩
      refine go_freeze_dl (T := tFa) (A := A3) (by repeat constructor) ?_
      refine go_pure0 Tk rfl rfl rfl ?_
      refine go_nil ?_
      refine go_env [(3, _), (5, _), (6, _), (7, _)] ⟨rfl, rfl, rfl, rfl, trivial⟩ ?_
      refine go_seq ?_
      refine go_region rfl ?_
      refine go_pure0 Tk rfl rfl rfl ?_
      refine go_val0 rfl (load_val Tk rfl rfl rfl (by first | exact at_pt (by repeat constructor) (by rfl) | exact at_cl 0 (by repeat constructor) (by rfl) | exact at_cl 1 (by repeat constructor) (by rfl) | exact at_cl 2 (by repeat constructor) (by rfl) | exact at_cl 3 (by repeat constructor) (by rfl) | exact at_cl 4 (by repeat constructor) (by rfl) | exact at_cl 5 (by repeat constructor) (by rfl) | exact at_cl 6 (by repeat constructor) (by rfl) | exact at_cl 7 (by repeat constructor) (by rfl)) (by rfl)) rfl ?_
      refine go_val0 rfl (fun a w hp ho hf hs => build_val Tk rfl rfl rfl (by rfl) a w hf) rfl ?_
      refine go_alloc Tk rfl rfl rfl (by rfl) rfl rfl (fun h => nomatch h) ?_
      intro bl
      refine go_store Tk rfl rfl rfl rfl rfl rfl (by repeat constructor) rfl rfl (by rfl) (fun h => nomatch h) ?_
      refine go_own_nil tTm 78 none ?_
      refine go_nil ?_
      refine go_env [(3, _), (5, _), (6, _), (7, _), (8, _)] ⟨rfl, rfl, rfl, rfl, rfl, trivial⟩ ?_
      refine go_seq ?_
      refine go_seq ?_
      refine go_region rfl ?_
      refine go_pure0 Tk rfl rfl rfl ?_
      refine go_nil ?_
      refine go_env [(3, _), (5, _), (6, _), (7, _), (8, _), (9, _)] ⟨rfl, rfl, rfl, rfl, rfl, rfl, trivial⟩ ?_
      refine go_block ?_
      refine go_loop' (X := Nat × Option Addr × Nat) (fun x => [(9, .int .i64 (x.1 : Int))]) [(3, _), (5, _), (6, _), (7, _), (8, _)] (fun x => [pt bl 56 [.int .u32 t.p, .slice x.2.1 (loose t.p x.1).a.length x.2.2], ol tTm 78 x.2.1 x.2.2 (loose t.p x.1).a]) (fun x => x.1 ≤ t.a.length) (fun x => t.a.length - x.1) ((0, none, 0)) ⟨rfl, rfl, rfl, rfl, rfl, rfl, trivial⟩ (by repeat constructor) (by omega) ?_
      intro ⟨k, A4, c4⟩ hk
      simp only at hk ⊢
      refine go_seq ?_
      refine go_seq ?_
      refine go_region rfl ?_
      refine go_pure0 Tk rfl rfl rfl ?_
      refine go_pure0 Tk rfl rfl rfl ?_
      refine go_val0 rfl (load_val Tk rfl rfl rfl (by first | exact at_pt (by repeat constructor) (by rfl) | exact at_cl 0 (by repeat constructor) (by rfl) | exact at_cl 1 (by repeat constructor) (by rfl) | exact at_cl 2 (by repeat constructor) (by rfl) | exact at_cl 3 (by repeat constructor) (by rfl) | exact at_cl 4 (by repeat constructor) (by rfl) | exact at_cl 5 (by repeat constructor) (by rfl) | exact at_cl 6 (by repeat constructor) (by rfl) | exact at_cl 7 (by repeat constructor) (by rfl)) (by rfl)) rfl ?_
      refine go_pure0 Tk rfl rfl rfl ?_
      refine go_pure0 Tk rfl rfl rfl ?_
      refine go_nil ?_
      refine go_env [(3, _), (5, _), (6, _), (7, _), (8, _), (9, _), (39, _)] ⟨rfl, rfl, rfl, rfl, rfl, rfl, rfl, trivial⟩ ?_
      refine go_condD rfl ?_ ?_
      · intro hq1
        refine go_skip ?_
        refine go_seq ?_
        refine go_block ?_
        refine go_draw ([]) ([pt bl 56 [.int .u32 t.p, .slice A4 (loose t.p k).a.length c4]]) [1] (SL.pre [(1, 0), (1, 2), (1, 3), (2, 1), (0, 4), (0, 5), (0, 6), (1, 7), (0, 8)] .nil) mixed rfl (by kernel_rfl) ?_
        refine go_pure1 Tk rfl rfl rfl ?_
        refine go_pure1 Tk rfl rfl rfl ?_
        refine go_pure1 Tk rfl rfl rfl ?_
        refine go_re 45 (.int .u32 (k : Int)) (by show some _ = _; rw [wrap32 (by omega)]) ?_
        refine go_val2 rfl (load_val Tk rfl rfl rfl (by first | exact at_pt (by repeat constructor) (by rfl) | exact at_cl 0 (by repeat constructor) (by rfl) | exact at_cl 1 (by repeat constructor) (by rfl) | exact at_cl 2 (by repeat constructor) (by rfl) | exact at_cl 3 (by repeat constructor) (by rfl) | exact at_cl 4 (by repeat constructor) (by rfl) | exact at_cl 5 (by repeat constructor) (by rfl) | exact at_cl 6 (by repeat constructor) (by rfl) | exact at_cl 7 (by repeat constructor) (by rfl)) (by rfl)) (by repeat constructor) (by repeat constructor) rfl ?_
        refine go_call (lawV k) rfl rfl (by rfl) rfl (by repeat constructor) (by repeat constructor) (fun _ v Ps' Os' hq => by obtain ⟨rfl, rfl, rfl⟩ := hq; exact satS (by repeat constructor) (by repeat constructor)) ?_
        rintro _ _ _ ⟨rfl, rfl, rfl⟩
        refine go_bslice Tk rfl rfl rfl rfl rfl rfl rfl rfl (fun _ _ => satS (by repeat constructor) (by repeat constructor)) ?_
        intro bn
        refine go_append1 (T := tTm) (xs := (loose t.p k).a) Tk (⟨true, (k : Int)⟩) rfl rfl rfl rfl rfl rfl rfl rfl rfl (by repeat constructor) (by repeat constructor) rfl ent_tm (by rw [loose_len]; omega) (by first | exact (fun _ _ _ => satS (by repeat constructor) (by repeat constructor)) | exact (fun h => nomatch h) | exact (fun h => nomatch (Eq.symm h).trans (show _ = false by kernel_rfl))) ?_
        intro A5 c5
        refine go_pure1 Tk rfl rfl rfl ?_
        refine go_store Tk rfl rfl rfl rfl rfl rfl (by repeat constructor) rfl rfl (by rfl) (fun h => nomatch h) ?_
        refine go_nil ?_
        refine go_env [(3, _), (5, _), (6, _), (7, _), (8, _), (9, _)] ⟨rfl, rfl, rfl, rfl, rfl, rfl, trivial⟩ ?_
        refine go_blk ?_
        refine go_region rfl ?_
        refine go_pure0 Tk rfl rfl rfl ?_
        refine go_pure0 Tk rfl rfl rfl ?_
        refine go_pure0 Tk rfl rfl rfl ?_
        refine go_nil ?_
        rw [← loose_next]
        refine go_i64 9 rfl (by omega) (by omega) ?_
        refine go_back (k + 1, _, _) ⟨rfl, rfl, rfl, rfl, rfl, rfl, trivial⟩ (by repeat constructor) (by repeat constructor) (by show k + 1 ≤ _; omega) (by show t.a.length - (k + 1) < t.a.length - k; omega)
      · intro hq1
        refine go_exit rfl ?_
        refine go_seq ?_
        obtain rfl : k = t.a.length := by omega
        refine go_freeze_ol (xs := (loose t.p t.a.length).a) (by repeat constructor) ?_
        refine go_region rfl ?_
        refine go_pure0 Tk rfl rfl rfl ?_
        refine go_val0 rfl (load_val Tk rfl rfl rfl (by first | exact at_pt (by repeat constructor) (by rfl) | exact at_cl 0 (by repeat constructor) (by rfl) | exact at_cl 1 (by repeat constructor) (by rfl) | exact at_cl 2 (by repeat constructor) (by rfl) | exact at_cl 3 (by repeat constructor) (by rfl) | exact at_cl 4 (by repeat constructor) (by rfl) | exact at_cl 5 (by repeat constructor) (by rfl) | exact at_cl 6 (by repeat constructor) (by rfl) | exact at_cl 7 (by repeat constructor) (by rfl)) (by rfl)) rfl ?_
        refine go_call (relFindN (some ⟨br, 0, none⟩) (fof l) (loose t.p t.a.length) A4 c4 (loose_ok _ _) (by rw [loose_len]; omega) Fl.n Fl.b) rfl rfl (by rfl) rfl (by repeat constructor) (by repeat constructor) (fun h => nomatch h) ?_
        rintro _ _ _ ⟨A6, c6, rfl, rfl, rfl⟩
        rw [loose_is]
        refine go_freeze_dl (T := tFa) (A := A6) (by repeat constructor) ?_
        refine go_pure0 Tk rfl rfl rfl ?_
        refine go_nil ?_
        refine go_env [(3, _), (6, _), (7, _), (10, _)] ⟨rfl, rfl, rfl, rfl, trivial⟩ ?_
        refine go_seq ?_
        refine go_len (xs := fof l) (by repeat constructor) (fun lx mx => ?_)
        refine go_len (xs := (fof l).filter (mtch t)) (by repeat constructor) (fun ly my => ?_)
        refine go_len (xs := (fof l).filter (isOf t)) (by repeat constructor) (fun lz mz => ?_)
        have hFn := Fl.n
        refine go_region rfl ?_
        refine go_pure0 Tk rfl rfl rfl ?_
        refine go_nil ?_
        refine go_env [(3, _), (6, _), (7, _), (10, _), (11, _)] ⟨rfl, rfl, rfl, rfl, rfl, trivial⟩ ?_
        refine go_seq ?_
        refine go_region rfl ?_
        refine go_pure0 Tk rfl rfl rfl ?_
        refine go_nil ?_
        refine go_env [(3, _), (6, _), (7, _), (10, _), (11, _), (12, _)] ⟨rfl, rfl, rfl, rfl, rfl, rfl, trivial⟩ ?_
        refine go_seq ?_
        refine go_seq ?_
        refine go_region rfl ?_
        refine go_pure0 Tk rfl rfl rfl ?_
        refine go_nil ?_
        refine go_env [(3, _), (6, _), (7, _), (10, _), (11, _), (12, _), (13, _)] ⟨rfl, rfl, rfl, rfl, rfl, rfl, rfl, trivial⟩ ?_
        refine go_block ?_
        refine go_loop' (X := Nat) (fun k => [(11, .int .i64 ((((fof l).take k).filter (mtch t)).length : Int)), (12, .int .i64 ((((fof l).take k).filter (isOf t)).length : Int)), (13, .int .i64 (k : Int))]) [(3, _), (6, _), (7, _), (10, _)] (fun _ => []) (fun k => k ≤ (fof l).length) (fun k => (fof l).length - k) (0) ⟨rfl, rfl, rfl, rfl, rfl, rfl, rfl, trivial⟩ (by repeat constructor) (by omega) ?_
        intro k hk
        have h1n := filter_len (mtch t) (fof l) k
        have h2n := filter_len (isOf t) (fof l) k
        refine go_seq ?_
        refine go_seq ?_
        refine go_region rfl ?_
        refine go_pure0 Tk rfl rfl rfl ?_
        refine go_pure0 Tk rfl rfl rfl ?_
        refine go_pure0 Tk rfl rfl rfl ?_
        refine go_pure0 Tk rfl rfl rfl ?_
        refine go_nil ?_
        refine go_env [(3, _), (6, _), (7, _), (10, _), (11, _), (12, _), (13, _), (56, _)] ⟨rfl, rfl, rfl, rfl, rfl, rfl, rfl, rfl, trivial⟩ ?_
        refine go_condD rfl ?_ ?_
        · intro hq2
          refine go_skip ?_
          refine go_seq ?_
          refine go_block ?_
          refine go_seq ?_
          refine go_seq ?_
          refine go_cut' (X := Unit) (fun _ => [(73, .bool false)]) [(3, _), (6, _), (7, _), (10, _), (11, _), (12, _), (13, _)] (fun _ => True) ⟨rfl, rfl, rfl, rfl, rfl, rfl, rfl, trivial⟩ ?_ ?_
          · skip
            by_cases hk0 : 0 < k
            · skip
              refine go_elem_fa (xs := fof l) (by repeat constructor) (k - 1) (List.getElem?_eq_getElem (by omega)) (fun b4 o4 A4 c4 hA => ?_); cases hA
              refine go_elem_fa (xs := fof l) (by repeat constructor) (k) (List.getElem?_eq_getElem (by omega)) (fun b5 o5 A5 c5 hA => ?_); cases hA
              have hcr : cmpF (fof l)[k - 1].p (fof l)[k - 1].a (fof l)[k].p (fof l)[k].a < 0 := rises_at (rises_fof l) (by omega) (by omega)
              refine go_draw'  [7, 11] (SL.pre [(1, 0), (1, 1), (1, 2), (1, 3), (1, 4), (1, 5), (1, 6), (1, 8), (1, 9), (1, 10), (2, 7), (2, 11), (0, 12), (1, 13), (1, 14)] .nil) mixed rfl (by kernel_rfl) ?_
              refine go_pure1 Tk rfl rfl rfl ?_
              refine go_pure1 Tk rfl rfl rfl ?_
              refine go_re 60 (.bool true) (by show some _ = _; rw [decide_eq_true (by omega)]) ?_
              refine go_pure1 Tk rfl rfl rfl ?_
              refine go_pure1 Tk rfl rfl rfl ?_
              refine go_pure1 Tk rfl rfl rfl ?_
              refine go_pure1 Tk rfl rfl rfl ?_
              refine go_i64 64 rfl (by omega) (by omega) ?_
              refine go_re 64 (.int .i64 ((k - 1 : Nat) : Int)) (by show some (Value.int _ _) = _; rw [show ((k - 1 : Nat) : Int) = (k : Int) - 1 by omega]) ?_
              refine go_val1 rfl (idx_val Tk rfl rfl rfl rfl rfl (by omega)) rfl ?_
              refine go_pure1 Tk rfl rfl rfl ?_
              refine go_pure1 Tk rfl rfl rfl ?_
              refine go_val1 rfl (idx_val Tk rfl rfl rfl rfl rfl (by omega)) rfl ?_
              refine go_val2 rfl (load_val Tk rfl rfl rfl (by first | exact at_pt (by repeat constructor) (by rfl) | exact at_cl 0 (by repeat constructor) (by rfl) | exact at_cl 1 (by repeat constructor) (by rfl) | exact at_cl 2 (by repeat constructor) (by rfl) | exact at_cl 3 (by repeat constructor) (by rfl) | exact at_cl 4 (by repeat constructor) (by rfl) | exact at_cl 5 (by repeat constructor) (by rfl) | exact at_cl 6 (by repeat constructor) (by rfl) | exact at_cl 7 (by repeat constructor) (by rfl)) (by rfl)) (by repeat constructor) (by repeat constructor) rfl ?_
              refine go_val2 rfl (load_val Tk rfl rfl rfl (by first | exact at_pt (by repeat constructor) (by rfl) | exact at_cl 0 (by repeat constructor) (by rfl) | exact at_cl 1 (by repeat constructor) (by rfl) | exact at_cl 2 (by repeat constructor) (by rfl) | exact at_cl 3 (by repeat constructor) (by rfl) | exact at_cl 4 (by repeat constructor) (by rfl) | exact at_cl 5 (by repeat constructor) (by rfl) | exact at_cl 6 (by repeat constructor) (by rfl) | exact at_cl 7 (by repeat constructor) (by rfl)) (by rfl)) (by repeat constructor) (by repeat constructor) rfl ?_
              refine go_call (atomsCompare _ _ _ _ _ _ _ _) rfl rfl (by rfl) rfl (by repeat constructor) (by repeat constructor) (fun h => nomatch h) ?_
              rintro _ _ _ ⟨rfl, rfl, rfl⟩
              refine go_pure1 Tk rfl rfl rfl ?_
              refine go_re 72 (.bool false) (by show some (Value.bool _) = _; rw [decide_eq_false (by omega)]) ?_
              refine go_pure1 Tk rfl rfl rfl ?_
              refine go_nil ?_
              refine go_back () ⟨rfl, rfl, rfl, rfl, rfl, rfl, rfl, rfl, trivial⟩ (by repeat constructor) (by repeat constructor) trivial (by decide)
            · skip
              refine go_draw'  [7, 11] (SL.pre [(1, 0), (1, 1), (1, 2), (1, 3), (1, 4), (1, 5), (1, 6), (1, 8), (1, 9), (1, 10), (2, 7), (2, 11), (0, 12), (1, 13), (1, 14)] .nil) mixed rfl (by kernel_rfl) ?_
              refine go_pure1 Tk rfl rfl rfl ?_
              refine go_pure1 Tk rfl rfl rfl ?_
              refine go_re 60 (.bool false) (by show some _ = _; rw [decide_eq_false (by omega)]) ?_
              refine go_pure1 Tk rfl rfl rfl ?_
              refine go_skip1 rfl rfl ?_
              refine go_skip1 rfl rfl ?_
              refine go_skip1 rfl rfl ?_
              refine go_skip1 rfl rfl ?_
              refine go_skip1 rfl rfl ?_
              refine go_skip1 rfl rfl ?_
              refine go_skip1 rfl rfl ?_
              refine go_skip2 rfl (by repeat constructor) (by repeat constructor) rfl ?_
              refine go_skip2 rfl (by repeat constructor) (by repeat constructor) rfl ?_
              refine go_skip0 rfl rfl ?_
              refine go_skip1 rfl rfl ?_
              refine go_pure1 Tk rfl rfl rfl ?_
              refine go_nil ?_
              refine go_back () ⟨rfl, rfl, rfl, rfl, rfl, rfl, rfl, rfl, trivial⟩ (by repeat constructor) (by repeat constructor) trivial (by decide)
          intro _ _
          refine go_cond rfl ?_ ?_
          · intro hq3
            (try simp only [decide_eq_true_eq, decide_eq_false_iff_not, Bool.not_eq_true', Bool.not_eq_false', Bool.not_eq_eq_eq_not, Bool.not_true, Bool.not_false, Int.not_lt, Int.not_le, beq_iff_eq, beq_eq_false_iff_ne, ne_eq] at hq3)
            exfalso; simp_all
          · intro hq3
            (try simp only [decide_eq_true_eq, decide_eq_false_iff_not, Bool.not_eq_true', Bool.not_eq_false', Bool.not_eq_eq_eq_not, Bool.not_true, Bool.not_false, Int.not_lt, Int.not_le, beq_iff_eq, beq_eq_false_iff_ne, ne_eq] at hq3)
            refine go_skip ?_
            refine go_seq ?_
            refine go_seq ?_
            refine go_elem_fa (xs := fof l) (by repeat constructor) (k) (List.getElem?_eq_getElem (by omega)) (fun b7 o7 A7 c7 hA => ?_); cases hA
            refine go_draw'  [0, 4] (SL.pre [(1, 1), (1, 2), (1, 3), (2, 0), (2, 4), (0, 5)] .nil) mixed rfl (by kernel_rfl) ?_
            refine go_pure1 Tk rfl rfl rfl ?_
            refine go_pure1 Tk rfl rfl rfl ?_
            refine go_val1 rfl (idx_val Tk rfl rfl rfl rfl rfl (by omega)) rfl ?_
            refine go_val2 rfl (load_val Tk rfl rfl rfl (by first | exact at_pt (by repeat constructor) (by rfl) | exact at_cl 0 (by repeat constructor) (by rfl) | exact at_cl 1 (by repeat constructor) (by rfl) | exact at_cl 2 (by repeat constructor) (by rfl) | exact at_cl 3 (by repeat constructor) (by rfl) | exact at_cl 4 (by repeat constructor) (by rfl) | exact at_cl 5 (by repeat constructor) (by rfl) | exact at_cl 6 (by repeat constructor) (by rfl) | exact at_cl 7 (by repeat constructor) (by rfl)) (by rfl)) (by repeat constructor) (by repeat constructor) rfl ?_
            refine go_val2 rfl (load_val Tk rfl rfl rfl (by first | exact at_pt (by repeat constructor) (by rfl) | exact at_cl 0 (by repeat constructor) (by rfl) | exact at_cl 1 (by repeat constructor) (by rfl) | exact at_cl 2 (by repeat constructor) (by rfl) | exact at_cl 3 (by repeat constructor) (by rfl) | exact at_cl 4 (by repeat constructor) (by rfl) | exact at_cl 5 (by repeat constructor) (by rfl) | exact at_cl 6 (by repeat constructor) (by rfl) | exact at_cl 7 (by repeat constructor) (by rfl)) (by rfl)) (by repeat constructor) (by repeat constructor) rfl ?_
            refine go_call (atomsMatch t TA tc (fof l)[k] A7 c7 ha (by omega)) rfl rfl (by rfl) rfl (by repeat constructor) (by repeat constructor) (fun h => nomatch h) ?_
            rintro _ _ _ ⟨rfl, rfl, rfl⟩
            refine go_nil ?_
            refine go_env [(3, _), (6, _), (7, _), (10, _), (11, _), (12, _), (13, _), (79, _)] ⟨rfl, rfl, rfl, rfl, rfl, rfl, rfl, rfl, trivial⟩ ?_
            refine go_cond rfl ?_ ?_
            · intro g1
              (try simp only [decide_eq_true_eq, decide_eq_false_iff_not, Bool.not_eq_true', Bool.not_eq_false', Bool.not_eq_eq_eq_not, Bool.not_true, Bool.not_false, Int.not_lt, Int.not_le, beq_iff_eq, beq_eq_false_iff_ne, ne_eq] at g1)
              refine go_seq ?_
              refine go_seq ?_
              have hf1 := (filter_at (p := mtch t) (l := fof l) (by omega) g1).1
              refine go_elem_fa (xs := (fof l).filter (mtch t)) (by repeat constructor) ((((fof l).take k).filter (mtch t)).length) ((filter_at (p := mtch t) (l := fof l) (by omega) g1).2) (fun b8 o8 A8 c8 hA => ?_); cases hA
              refine go_draw'  [8, 12] (SL.pre [(1, 0), (1, 1), (1, 2), (1, 3), (1, 4), (1, 5), (1, 6), (1, 7), (1, 9), (1, 10), (1, 11), (2, 8), (2, 12), (0, 13), (1, 14), (1, 15)] .nil) mixed rfl (by kernel_rfl) ?_
              refine go_pure1 Tk rfl rfl rfl ?_
              refine go_pure1 Tk rfl rfl rfl ?_
              refine go_pure1 Tk rfl rfl rfl ?_
              refine go_pure1 Tk rfl rfl rfl ?_
              refine go_re 83 (.bool false) (by show some (Value.bool _) = _; rw [decide_eq_false (by omega)]) ?_
              refine go_pure1 Tk rfl rfl rfl ?_
              refine go_pure1 Tk rfl rfl rfl ?_
              refine go_pure1 Tk rfl rfl rfl ?_
              refine go_val1 rfl (idx_val Tk rfl rfl rfl rfl rfl (by omega)) rfl ?_
              refine go_pure1 Tk rfl rfl rfl ?_
              refine go_pure1 Tk rfl rfl rfl ?_
              refine go_val1 rfl (idx_val Tk rfl rfl rfl rfl rfl (by omega)) rfl ?_
              refine go_val2 rfl (load_val Tk rfl rfl rfl (by first | exact at_pt (by repeat constructor) (by rfl) | exact at_cl 0 (by repeat constructor) (by rfl) | exact at_cl 1 (by repeat constructor) (by rfl) | exact at_cl 2 (by repeat constructor) (by rfl) | exact at_cl 3 (by repeat constructor) (by rfl) | exact at_cl 4 (by repeat constructor) (by rfl) | exact at_cl 5 (by repeat constructor) (by rfl) | exact at_cl 6 (by repeat constructor) (by rfl) | exact at_cl 7 (by repeat constructor) (by rfl)) (by rfl)) (by repeat constructor) (by repeat constructor) rfl ?_
              refine go_val2 rfl (load_val Tk rfl rfl rfl (by first | exact at_pt (by repeat constructor) (by rfl) | exact at_cl 0 (by repeat constructor) (by rfl) | exact at_cl 1 (by repeat constructor) (by rfl) | exact at_cl 2 (by repeat constructor) (by rfl) | exact at_cl 3 (by repeat constructor) (by rfl) | exact at_cl 4 (by repeat constructor) (by rfl) | exact at_cl 5 (by repeat constructor) (by rfl) | exact at_cl 6 (by repeat constructor) (by rfl) | exact at_cl 7 (by repeat constructor) (by rfl)) (by rfl)) (by repeat constructor) (by repeat constructor) rfl ?_
              refine go_call (atomsCompare _ _ _ _ _ _ _ _) rfl rfl (by rfl) rfl (by repeat constructor) (by repeat constructor) (fun h => nomatch h) ?_
              rintro _ _ _ ⟨rfl, rfl, rfl⟩
              refine go_pure1 Tk rfl rfl rfl ?_
              refine go_re 94 (.bool false) (by show some (Value.bool _) = _; simp [cmpF_self]) ?_
              refine go_pure1 Tk rfl rfl rfl ?_
              refine go_nil ?_
              refine go_env [(3, _), (6, _), (7, _), (10, _), (11, _), (12, _), (13, _), (85, _), (86, _), (87, _), (88, _), (89, _), (90, _), (91, _), (92, _), (93, _), (94, _), (95, _)] ⟨rfl, rfl, rfl, rfl, rfl, rfl, rfl, rfl, rfl, rfl, rfl, rfl, rfl, rfl, rfl, rfl, rfl, rfl, trivial⟩ ?_
              refine go_cond_f rfl ?_
              refine go_skip ?_
              refine go_region rfl ?_
              refine go_pure0 Tk rfl rfl rfl ?_
              refine go_pure0 Tk rfl rfl rfl ?_
              refine go_i64 97 rfl (by omega) (by omega) ?_
              refine go_pure0 Tk rfl rfl rfl ?_
              refine go_nil ?_
              refine go_env [(3, _), (6, _), (7, _), (10, _), (11, _), (12, _), (13, _), (85, _), (86, _), (87, _), (88, _), (89, _), (90, _), (91, _), (92, _), (93, _), (94, _)] ⟨rfl, rfl, rfl, rfl, rfl, rfl, rfl, rfl, rfl, rfl, rfl, rfl, rfl, rfl, rfl, rfl, rfl, trivial⟩ ?_
              refine go_seq ?_
              refine go_draw'  [4, 6, 13, 16] (SL.pre [(1, 0), (1, 1), (1, 2), (1, 3), (1, 5), (2, 4), (2, 6), (1, 7), (1, 8), (1, 9), (1, 10), (1, 11), (1, 12), (1, 15), (2, 13), (1, 14), (2, 16), (1, 17), (1, 18), (1, 19)] .nil) mixed rfl (by kernel_rfl) ?_
              refine go_pure1 Tk rfl rfl rfl ?_
              refine go_pure1 Tk rfl rfl rfl ?_
              refine go_val1 rfl (idx_val Tk rfl rfl rfl rfl rfl (by omega)) rfl ?_
              refine go_pure1 Tk rfl rfl rfl ?_
              refine go_pure1 Tk rfl rfl rfl ?_
              refine go_val2 rfl (load_val Tk rfl rfl rfl (by first | exact at_pt (by repeat constructor) (by rfl) | exact at_cl 0 (by repeat constructor) (by rfl) | exact at_cl 1 (by repeat constructor) (by rfl) | exact at_cl 2 (by repeat constructor) (by rfl) | exact at_cl 3 (by repeat constructor) (by rfl) | exact at_cl 4 (by repeat constructor) (by rfl) | exact at_cl 5 (by repeat constructor) (by rfl) | exact at_cl 6 (by repeat constructor) (by rfl) | exact at_cl 7 (by repeat constructor) (by rfl)) (by rfl)) (by repeat constructor) (by repeat constructor) rfl ?_
              refine go_val2 rfl (load_val Tk rfl rfl rfl (by first | exact at_pt (by repeat constructor) (by rfl) | exact at_cl 0 (by repeat constructor) (by rfl) | exact at_cl 1 (by repeat constructor) (by rfl) | exact at_cl 2 (by repeat constructor) (by rfl) | exact at_cl 3 (by repeat constructor) (by rfl) | exact at_cl 4 (by repeat constructor) (by rfl) | exact at_cl 5 (by repeat constructor) (by rfl) | exact at_cl 6 (by repeat constructor) (by rfl) | exact at_cl 7 (by repeat constructor) (by rfl)) (by rfl)) (by repeat constructor) (by repeat constructor) rfl ?_
              refine go_pure1 Tk rfl rfl rfl ?_
              refine go_pure1 Tk rfl rfl rfl ?_
              refine go_known 106 rfl ?_ ?_
              · intro g3
                (try simp only [decide_eq_true_eq, decide_eq_false_iff_not, Bool.not_eq_true', Bool.not_eq_false', Bool.not_eq_eq_eq_not, Bool.not_true, Bool.not_false, Int.not_lt, Int.not_le, beq_iff_eq, beq_eq_false_iff_ne, ne_eq] at g3)
                refine go_pure1 Tk rfl rfl rfl ?_
                refine go_pure1 Tk rfl rfl rfl ?_
                refine go_val1 rfl (idx_val Tk rfl rfl rfl rfl rfl (by omega)) rfl ?_
                refine go_pure1 Tk rfl rfl rfl ?_
                refine go_pure1 Tk rfl rfl rfl ?_
                refine go_val2 rfl (load_val Tk rfl rfl rfl (by first | exact at_pt (by repeat constructor) (by rfl) | exact at_cl 0 (by repeat constructor) (by rfl) | exact at_cl 1 (by repeat constructor) (by rfl) | exact at_cl 2 (by repeat constructor) (by rfl) | exact at_cl 3 (by repeat constructor) (by rfl) | exact at_cl 4 (by repeat constructor) (by rfl) | exact at_cl 5 (by repeat constructor) (by rfl) | exact at_cl 6 (by repeat constructor) (by rfl) | exact at_cl 7 (by repeat constructor) (by rfl)) (by rfl)) (by repeat constructor) (by repeat constructor) rfl ?_
                refine go_pure1 Tk rfl rfl rfl ?_
                refine go_val2 rfl (load_val Tk rfl rfl rfl (by first | exact at_pt (by repeat constructor) (by rfl) | exact at_cl 0 (by repeat constructor) (by rfl) | exact at_cl 1 (by repeat constructor) (by rfl) | exact at_cl 2 (by repeat constructor) (by rfl) | exact at_cl 3 (by repeat constructor) (by rfl) | exact at_cl 4 (by repeat constructor) (by rfl) | exact at_cl 5 (by repeat constructor) (by rfl) | exact at_cl 6 (by repeat constructor) (by rfl) | exact at_cl 7 (by repeat constructor) (by rfl)) (by rfl)) (by repeat constructor) (by repeat constructor) rfl ?_
                refine go_pure1 Tk rfl rfl rfl ?_
                refine go_pure1 Tk rfl rfl rfl ?_
                refine go_pure1 Tk rfl rfl rfl ?_
                refine go_nil ?_
                refine go_env [(3, _), (6, _), (7, _), (10, _), (11, _), (12, _), (13, _), (85, _), (86, _), (87, _), (88, _), (89, _), (90, _), (91, _), (92, _), (93, _), (94, _), (107, _), (108, _), (109, _), (110, _), (111, _), (112, _), (113, _), (114, _), (115, _), (116, _), (117, _)] ⟨rfl, rfl, rfl, rfl, rfl, rfl, rfl, rfl, rfl, rfl, rfl, rfl, rfl, rfl, rfl, rfl, rfl, rfl, rfl, rfl, rfl, rfl, rfl, rfl, rfl, rfl, rfl, rfl, trivial⟩ ?_
                refine go_cond rfl ?_ ?_
                · intro g4
                  (try simp only [decide_eq_true_eq, decide_eq_false_iff_not, Bool.not_eq_true', Bool.not_eq_false', Bool.not_eq_eq_eq_not, Bool.not_true, Bool.not_false, Int.not_lt, Int.not_le, beq_iff_eq, beq_eq_false_iff_ne, ne_eq] at g4)
                  have g2 : isOf t (fof l)[k] = true := isOf_yes (by assumption) (by assumption)
                  refine go_seq ?_
                  refine go_seq ?_
                  have hf2 := (filter_at (p := isOf t) (l := fof l) (by omega) g2).1
                  refine go_elem_fa (xs := (fof l).filter (isOf t)) (by repeat constructor) ((((fof l).take k).filter (isOf t)).length) ((filter_at (p := isOf t) (l := fof l) (by omega) g2).2) (fun b9 o9 A9 c9 hA => ?_); cases hA
                  refine go_draw'  [8, 12] (SL.pre [(1, 0), (1, 1), (1, 2), (1, 3), (1, 4), (1, 5), (1, 6), (1, 7), (1, 9), (1, 10), (1, 11), (2, 8), (2, 12), (0, 13), (1, 14), (1, 15)] .nil) mixed rfl (by kernel_rfl) ?_
                  refine go_pure1 Tk rfl rfl rfl ?_
                  refine go_pure1 Tk rfl rfl rfl ?_
                  refine go_pure1 Tk rfl rfl rfl ?_
                  refine go_pure1 Tk rfl rfl rfl ?_
                  refine go_re 121 (.bool false) (by show some (Value.bool _) = _; rw [decide_eq_false (by omega)]) ?_
                  refine go_pure1 Tk rfl rfl rfl ?_
                  refine go_pure1 Tk rfl rfl rfl ?_
                  refine go_pure1 Tk rfl rfl rfl ?_
                  refine go_val1 rfl (idx_val Tk rfl rfl rfl rfl rfl (by omega)) rfl ?_
                  refine go_pure1 Tk rfl rfl rfl ?_
                  refine go_pure1 Tk rfl rfl rfl ?_
                  refine go_val1 rfl (idx_val Tk rfl rfl rfl rfl rfl (by omega)) rfl ?_
                  refine go_val2 rfl (load_val Tk rfl rfl rfl (by first | exact at_pt (by repeat constructor) (by rfl) | exact at_cl 0 (by repeat constructor) (by rfl) | exact at_cl 1 (by repeat constructor) (by rfl) | exact at_cl 2 (by repeat constructor) (by rfl) | exact at_cl 3 (by repeat constructor) (by rfl) | exact at_cl 4 (by repeat constructor) (by rfl) | exact at_cl 5 (by repeat constructor) (by rfl) | exact at_cl 6 (by repeat constructor) (by rfl) | exact at_cl 7 (by repeat constructor) (by rfl)) (by rfl)) (by repeat constructor) (by repeat constructor) rfl ?_
                  refine go_val2 rfl (load_val Tk rfl rfl rfl (by first | exact at_pt (by repeat constructor) (by rfl) | exact at_cl 0 (by repeat constructor) (by rfl) | exact at_cl 1 (by repeat constructor) (by rfl) | exact at_cl 2 (by repeat constructor) (by rfl) | exact at_cl 3 (by repeat constructor) (by rfl) | exact at_cl 4 (by repeat constructor) (by rfl) | exact at_cl 5 (by repeat constructor) (by rfl) | exact at_cl 6 (by repeat constructor) (by rfl) | exact at_cl 7 (by repeat constructor) (by rfl)) (by rfl)) (by repeat constructor) (by repeat constructor) rfl ?_
                  refine go_call (atomsCompare _ _ _ _ _ _ _ _) rfl rfl (by rfl) rfl (by repeat constructor) (by repeat constructor) (fun h => nomatch h) ?_
                  rintro _ _ _ ⟨rfl, rfl, rfl⟩
                  refine go_pure1 Tk rfl rfl rfl ?_
                  refine go_re 132 (.bool false) (by show some (Value.bool _) = _; simp [cmpF_self]) ?_
                  refine go_pure1 Tk rfl rfl rfl ?_
                  refine go_nil ?_
                  refine go_env [(3, _), (6, _), (7, _), (10, _), (11, _), (12, _), (13, _), (85, _), (86, _), (87, _), (88, _), (89, _), (90, _), (91, _), (92, _), (93, _), (94, _), (107, _), (108, _), (109, _), (110, _), (111, _), (112, _), (113, _), (114, _), (115, _), (116, _), (123, _), (124, _), (125, _), (126, _), (127, _), (128, _), (129, _), (130, _), (131, _), (132, _), (133, _)] ⟨rfl, rfl, rfl, rfl, rfl, rfl, rfl, rfl, rfl, rfl, rfl, rfl, rfl, rfl, rfl, rfl, rfl, rfl, rfl, rfl, rfl, rfl, rfl, rfl, rfl, rfl, rfl, rfl, rfl, rfl, rfl, rfl, rfl, rfl, rfl, rfl, rfl, rfl, trivial⟩ ?_
                  refine go_cond_f rfl ?_
                  refine go_skip ?_
                  refine go_region rfl ?_
                  refine go_pure0 Tk rfl rfl rfl ?_
                  refine go_pure0 Tk rfl rfl rfl ?_
                  refine go_i64 135 rfl (by omega) (by omega) ?_
                  refine go_pure0 Tk rfl rfl rfl ?_
                  refine go_nil ?_
                  refine go_env [(3, _), (6, _), (7, _), (10, _), (11, _), (12, _), (13, _), (85, _), (86, _), (87, _), (88, _), (89, _), (90, _), (91, _), (92, _), (93, _), (94, _), (107, _), (108, _), (109, _), (110, _), (111, _), (112, _), (113, _), (114, _), (115, _), (116, _), (123, _), (124, _), (125, _), (126, _), (127, _), (128, _), (129, _), (130, _), (131, _), (132, _)] ⟨rfl, rfl, rfl, rfl, rfl, rfl, rfl, rfl, rfl, rfl, rfl, rfl, rfl, rfl, rfl, rfl, rfl, rfl, rfl, rfl, rfl, rfl, rfl, rfl, rfl, rfl, rfl, rfl, rfl, rfl, rfl, rfl, rfl, rfl, rfl, rfl, rfl, trivial⟩ ?_
                  refine go_blk ?_
                  refine go_region rfl ?_
                  refine go_pure0 Tk rfl rfl rfl ?_
                  refine go_pure0 Tk rfl rfl rfl ?_
                  refine go_pure0 Tk rfl rfl rfl ?_
                  refine go_nil ?_
                  refine go_i64 13 rfl (by omega) (by omega) ?_
                  refine go_re 11 (.int .i64 ((((fof l).take (k + 1)).filter (mtch t)).length : Int)) (by show some _ = _; first | (rw [filter_yes (by omega) g1, List.length_append]; rfl) | rw [filter_no (by omega) (by simpa using g1)]) ?_
                  refine go_re 12 (.int .i64 ((((fof l).take (k + 1)).filter (isOf t)).length : Int)) (by show some _ = _; first | (rw [filter_yes (by omega) g2, List.length_append]; rfl) | rw [filter_no (by omega) (by simpa using g2)]) ?_
                  refine go_back (k + 1) ⟨rfl, rfl, rfl, rfl, rfl, rfl, rfl, trivial⟩ (by repeat constructor) (by repeat constructor) (by omega) (by omega)
                · intro g4
                  (try simp only [decide_eq_true_eq, decide_eq_false_iff_not, Bool.not_eq_true', Bool.not_eq_false', Bool.not_eq_eq_eq_not, Bool.not_true, Bool.not_false, Int.not_lt, Int.not_le, beq_iff_eq, beq_eq_false_iff_ne, ne_eq] at g4)
                  have g2 : isOf t (fof l)[k] = false := isOf_no (by assumption) (by assumption)
                  refine go_skip ?_
                  refine go_blk ?_
                  refine go_region rfl ?_
                  refine go_pure0 Tk rfl rfl rfl ?_
                  refine go_pure0 Tk rfl rfl rfl ?_
                  refine go_pure0 Tk rfl rfl rfl ?_
                  refine go_nil ?_
                  refine go_i64 13 rfl (by omega) (by omega) ?_
                  refine go_re 11 (.int .i64 ((((fof l).take (k + 1)).filter (mtch t)).length : Int)) (by show some _ = _; first | (rw [filter_yes (by omega) g1, List.length_append]; rfl) | rw [filter_no (by omega) (by simpa using g1)]) ?_
                  refine go_re 12 (.int .i64 ((((fof l).take (k + 1)).filter (isOf t)).length : Int)) (by show some _ = _; first | (rw [filter_yes (by omega) g2, List.length_append]; rfl) | rw [filter_no (by omega) (by simpa using g2)]) ?_
                  refine go_back (k + 1) ⟨rfl, rfl, rfl, rfl, rfl, rfl, rfl, trivial⟩ (by repeat constructor) (by repeat constructor) (by omega) (by omega)
              · intro g3
                (try simp only [decide_eq_true_eq, decide_eq_false_iff_not, Bool.not_eq_true', Bool.not_eq_false', Bool.not_eq_eq_eq_not, Bool.not_true, Bool.not_false, Int.not_lt, Int.not_le, beq_iff_eq, beq_eq_false_iff_ne, ne_eq] at g3)
                have g2 : isOf t (fof l)[k] = false := isOf_no' g3
                refine go_skip1 rfl rfl ?_
                refine go_skip1 rfl rfl ?_
                refine go_skip1 rfl rfl ?_
                refine go_skip1 rfl rfl ?_
                refine go_skip1 rfl rfl ?_
                refine go_skip2 rfl (by repeat constructor) (by repeat constructor) rfl ?_
                refine go_skip1 rfl rfl ?_
                refine go_skip2 rfl (by repeat constructor) (by repeat constructor) rfl ?_
                refine go_skip1 rfl rfl ?_
                refine go_skip1 rfl rfl ?_
                refine go_pure1 Tk rfl rfl rfl ?_
                refine go_nil ?_
                refine go_env [(3, _), (6, _), (7, _), (10, _), (11, _), (12, _), (13, _), (85, _), (86, _), (87, _), (88, _), (89, _), (90, _), (91, _), (92, _), (93, _), (94, _), (107, _), (108, _), (109, _), (110, _), (111, _), (112, _), (113, _), (114, _), (115, _), (116, _), (117, _)] ⟨rfl, rfl, rfl, rfl, rfl, rfl, rfl, rfl, rfl, rfl, rfl, rfl, rfl, rfl, rfl, rfl, rfl, rfl, rfl, rfl, rfl, rfl, rfl, rfl, rfl, rfl, rfl, rfl, trivial⟩ ?_
                refine go_cond_f rfl ?_
                refine go_skip ?_
                refine go_blk ?_
                refine go_region rfl ?_
                refine go_pure0 Tk rfl rfl rfl ?_
                refine go_pure0 Tk rfl rfl rfl ?_
                refine go_pure0 Tk rfl rfl rfl ?_
                refine go_nil ?_
                refine go_i64 13 rfl (by omega) (by omega) ?_
                refine go_re 11 (.int .i64 ((((fof l).take (k + 1)).filter (mtch t)).length : Int)) (by show some _ = _; first | (rw [filter_yes (by omega) g1, List.length_append]; rfl) | rw [filter_no (by omega) (by simpa using g1)]) ?_
                refine go_re 12 (.int .i64 ((((fof l).take (k + 1)).filter (isOf t)).length : Int)) (by show some _ = _; first | (rw [filter_yes (by omega) g2, List.length_append]; rfl) | rw [filter_no (by omega) (by simpa using g2)]) ?_
                refine go_back (k + 1) ⟨rfl, rfl, rfl, rfl, rfl, rfl, rfl, trivial⟩ (by repeat constructor) (by repeat constructor) (by omega) (by omega)
            · intro g1
              (try simp only [decide_eq_true_eq, decide_eq_false_iff_not, Bool.not_eq_true', Bool.not_eq_false', Bool.not_eq_eq_eq_not, Bool.not_true, Bool.not_false, Int.not_lt, Int.not_le, beq_iff_eq, beq_eq_false_iff_ne, ne_eq] at g1)
              refine go_skip ?_
              refine go_seq ?_
              refine go_draw'  [4, 6, 13, 16] (SL.pre [(1, 0), (1, 1), (1, 2), (1, 3), (1, 5), (2, 4), (2, 6), (1, 7), (1, 8), (1, 9), (1, 10), (1, 11), (1, 12), (1, 15), (2, 13), (1, 14), (2, 16), (1, 17), (1, 18), (1, 19)] .nil) mixed rfl (by kernel_rfl) ?_
              refine go_pure1 Tk rfl rfl rfl ?_
              refine go_pure1 Tk rfl rfl rfl ?_
              refine go_val1 rfl (idx_val Tk rfl rfl rfl rfl rfl (by omega)) rfl ?_
              refine go_pure1 Tk rfl rfl rfl ?_
              refine go_pure1 Tk rfl rfl rfl ?_
              refine go_val2 rfl (load_val Tk rfl rfl rfl (by first | exact at_pt (by repeat constructor) (by rfl) | exact at_cl 0 (by repeat constructor) (by rfl) | exact at_cl 1 (by repeat constructor) (by rfl) | exact at_cl 2 (by repeat constructor) (by rfl) | exact at_cl 3 (by repeat constructor) (by rfl) | exact at_cl 4 (by repeat constructor) (by rfl) | exact at_cl 5 (by repeat constructor) (by rfl) | exact at_cl 6 (by repeat constructor) (by rfl) | exact at_cl 7 (by repeat constructor) (by rfl)) (by rfl)) (by repeat constructor) (by repeat constructor) rfl ?_
              refine go_val2 rfl (load_val Tk rfl rfl rfl (by first | exact at_pt (by repeat constructor) (by rfl) | exact at_cl 0 (by repeat constructor) (by rfl) | exact at_cl 1 (by repeat constructor) (by rfl) | exact at_cl 2 (by repeat constructor) (by rfl) | exact at_cl 3 (by repeat constructor) (by rfl) | exact at_cl 4 (by repeat constructor) (by rfl) | exact at_cl 5 (by repeat constructor) (by rfl) | exact at_cl 6 (by repeat constructor) (by rfl) | exact at_cl 7 (by repeat constructor) (by rfl)) (by rfl)) (by repeat constructor) (by repeat constructor) rfl ?_
              refine go_pure1 Tk rfl rfl rfl ?_
              refine go_pure1 Tk rfl rfl rfl ?_
              refine go_known 106 rfl ?_ ?_
              · intro g3
                (try simp only [decide_eq_true_eq, decide_eq_false_iff_not, Bool.not_eq_true', Bool.not_eq_false', Bool.not_eq_eq_eq_not, Bool.not_true, Bool.not_false, Int.not_lt, Int.not_le, beq_iff_eq, beq_eq_false_iff_ne, ne_eq] at g3)
                refine go_pure1 Tk rfl rfl rfl ?_
                refine go_pure1 Tk rfl rfl rfl ?_
                refine go_val1 rfl (idx_val Tk rfl rfl rfl rfl rfl (by omega)) rfl ?_
                refine go_pure1 Tk rfl rfl rfl ?_
                refine go_pure1 Tk rfl rfl rfl ?_
                refine go_val2 rfl (load_val Tk rfl rfl rfl (by first | exact at_pt (by repeat constructor) (by rfl) | exact at_cl 0 (by repeat constructor) (by rfl) | exact at_cl 1 (by repeat constructor) (by rfl) | exact at_cl 2 (by repeat constructor) (by rfl) | exact at_cl 3 (by repeat constructor) (by rfl) | exact at_cl 4 (by repeat constructor) (by rfl) | exact at_cl 5 (by repeat constructor) (by rfl) | exact at_cl 6 (by repeat constructor) (by rfl) | exact at_cl 7 (by repeat constructor) (by rfl)) (by rfl)) (by repeat constructor) (by repeat constructor) rfl ?_
                refine go_pure1 Tk rfl rfl rfl ?_
                refine go_val2 rfl (load_val Tk rfl rfl rfl (by first | exact at_pt (by repeat constructor) (by rfl) | exact at_cl 0 (by repeat constructor) (by rfl) | exact at_cl 1 (by repeat constructor) (by rfl) | exact at_cl 2 (by repeat constructor) (by rfl) | exact at_cl 3 (by repeat constructor) (by rfl) | exact at_cl 4 (by repeat constructor) (by rfl) | exact at_cl 5 (by repeat constructor) (by rfl) | exact at_cl 6 (by repeat constructor) (by rfl) | exact at_cl 7 (by repeat constructor) (by rfl)) (by rfl)) (by repeat constructor) (by repeat constructor) rfl ?_
                refine go_pure1 Tk rfl rfl rfl ?_
                refine go_pure1 Tk rfl rfl rfl ?_
                refine go_pure1 Tk rfl rfl rfl ?_
                refine go_nil ?_
                refine go_env [(3, _), (6, _), (7, _), (10, _), (11, _), (12, _), (13, _), (107, _), (108, _), (109, _), (110, _), (111, _), (112, _), (113, _), (114, _), (115, _), (116, _), (117, _)] ⟨rfl, rfl, rfl, rfl, rfl, rfl, rfl, rfl, rfl, rfl, rfl, rfl, rfl, rfl, rfl, rfl, rfl, rfl, trivial⟩ ?_
                refine go_cond rfl ?_ ?_
                · intro g4
                  (try simp only [decide_eq_true_eq, decide_eq_false_iff_not, Bool.not_eq_true', Bool.not_eq_false', Bool.not_eq_eq_eq_not, Bool.not_true, Bool.not_false, Int.not_lt, Int.not_le, beq_iff_eq, beq_eq_false_iff_ne, ne_eq] at g4)
                  have g2 : isOf t (fof l)[k] = true := isOf_yes (by assumption) (by assumption)
                  refine go_seq ?_
                  refine go_seq ?_
                  have hf2 := (filter_at (p := isOf t) (l := fof l) (by omega) g2).1
                  refine go_elem_fa (xs := (fof l).filter (isOf t)) (by repeat constructor) ((((fof l).take k).filter (isOf t)).length) ((filter_at (p := isOf t) (l := fof l) (by omega) g2).2) (fun b9 o9 A9 c9 hA => ?_); cases hA
                  refine go_draw'  [8, 12] (SL.pre [(1, 0), (1, 1), (1, 2), (1, 3), (1, 4), (1, 5), (1, 6), (1, 7), (1, 9), (1, 10), (1, 11), (2, 8), (2, 12), (0, 13), (1, 14), (1, 15)] .nil) mixed rfl (by kernel_rfl) ?_
                  refine go_pure1 Tk rfl rfl rfl ?_
                  refine go_pure1 Tk rfl rfl rfl ?_
                  refine go_pure1 Tk rfl rfl rfl ?_
                  refine go_pure1 Tk rfl rfl rfl ?_
                  refine go_re 121 (.bool false) (by show some (Value.bool _) = _; rw [decide_eq_false (by omega)]) ?_
                  refine go_pure1 Tk rfl rfl rfl ?_
                  refine go_pure1 Tk rfl rfl rfl ?_
                  refine go_pure1 Tk rfl rfl rfl ?_
                  refine go_val1 rfl (idx_val Tk rfl rfl rfl rfl rfl (by omega)) rfl ?_
                  refine go_pure1 Tk rfl rfl rfl ?_
                  refine go_pure1 Tk rfl rfl rfl ?_
                  refine go_val1 rfl (idx_val Tk rfl rfl rfl rfl rfl (by omega)) rfl ?_
                  refine go_val2 rfl (load_val Tk rfl rfl rfl (by first | exact at_pt (by repeat constructor) (by rfl) | exact at_cl 0 (by repeat constructor) (by rfl) | exact at_cl 1 (by repeat constructor) (by rfl) | exact at_cl 2 (by repeat constructor) (by rfl) | exact at_cl 3 (by repeat constructor) (by rfl) | exact at_cl 4 (by repeat constructor) (by rfl) | exact at_cl 5 (by repeat constructor) (by rfl) | exact at_cl 6 (by repeat constructor) (by rfl) | exact at_cl 7 (by repeat constructor) (by rfl)) (by rfl)) (by repeat constructor) (by repeat constructor) rfl ?_
                  refine go_val2 rfl (load_val Tk rfl rfl rfl (by first | exact at_pt (by repeat constructor) (by rfl) | exact at_cl 0 (by repeat constructor) (by rfl) | exact at_cl 1 (by repeat constructor) (by rfl) | exact at_cl 2 (by repeat constructor) (by rfl) | exact at_cl 3 (by repeat constructor) (by rfl) | exact at_cl 4 (by repeat constructor) (by rfl) | exact at_cl 5 (by repeat constructor) (by rfl) | exact at_cl 6 (by repeat constructor) (by rfl) | exact at_cl 7 (by repeat constructor) (by rfl)) (by rfl)) (by repeat constructor) (by repeat constructor) rfl ?_
                  refine go_call (atomsCompare _ _ _ _ _ _ _ _) rfl rfl (by rfl) rfl (by repeat constructor) (by repeat constructor) (fun h => nomatch h) ?_
                  rintro _ _ _ ⟨rfl, rfl, rfl⟩
                  refine go_pure1 Tk rfl rfl rfl ?_
                  refine go_re 132 (.bool false) (by show some (Value.bool _) = _; simp [cmpF_self]) ?_
                  refine go_pure1 Tk rfl rfl rfl ?_
                  refine go_nil ?_
                  refine go_env [(3, _), (6, _), (7, _), (10, _), (11, _), (12, _), (13, _), (107, _), (108, _), (109, _), (110, _), (111, _), (112, _), (113, _), (114, _), (115, _), (116, _), (123, _), (124, _), (125, _), (126, _), (127, _), (128, _), (129, _), (130, _), (131, _), (132, _), (133, _)] ⟨rfl, rfl, rfl, rfl, rfl, rfl, rfl, rfl, rfl, rfl, rfl, rfl, rfl, rfl, rfl, rfl, rfl, rfl, rfl, rfl, rfl, rfl, rfl, rfl, rfl, rfl, rfl, rfl, trivial⟩ ?_
                  refine go_cond_f rfl ?_
                  refine go_skip ?_
                  refine go_region rfl ?_
                  refine go_pure0 Tk rfl rfl rfl ?_
                  refine go_pure0 Tk rfl rfl rfl ?_
                  refine go_i64 135 rfl (by omega) (by omega) ?_
                  refine go_pure0 Tk rfl rfl rfl ?_
                  refine go_nil ?_
                  refine go_env [(3, _), (6, _), (7, _), (10, _), (11, _), (12, _), (13, _), (107, _), (108, _), (109, _), (110, _), (111, _), (112, _), (113, _), (114, _), (115, _), (116, _), (123, _), (124, _), (125, _), (126, _), (127, _), (128, _), (129, _), (130, _), (131, _), (132, _)] ⟨rfl, rfl, rfl, rfl, rfl, rfl, rfl, rfl, rfl, rfl, rfl, rfl, rfl, rfl, rfl, rfl, rfl, rfl, rfl, rfl, rfl, rfl, rfl, rfl, rfl, rfl, rfl, trivial⟩ ?_
                  refine go_blk ?_
                  refine go_region rfl ?_
                  refine go_pure0 Tk rfl rfl rfl ?_
                  refine go_pure0 Tk rfl rfl rfl ?_
                  refine go_pure0 Tk rfl rfl rfl ?_
                  refine go_nil ?_
                  refine go_i64 13 rfl (by omega) (by omega) ?_
                  refine go_re 11 (.int .i64 ((((fof l).take (k + 1)).filter (mtch t)).length : Int)) (by show some _ = _; first | (rw [filter_yes (by omega) g1, List.length_append]; rfl) | rw [filter_no (by omega) (by simpa using g1)]) ?_
                  refine go_re 12 (.int .i64 ((((fof l).take (k + 1)).filter (isOf t)).length : Int)) (by show some _ = _; first | (rw [filter_yes (by omega) g2, List.length_append]; rfl) | rw [filter_no (by omega) (by simpa using g2)]) ?_
                  refine go_back (k + 1) ⟨rfl, rfl, rfl, rfl, rfl, rfl, rfl, trivial⟩ (by repeat constructor) (by repeat constructor) (by omega) (by omega)
                · intro g4
                  (try simp only [decide_eq_true_eq, decide_eq_false_iff_not, Bool.not_eq_true', Bool.not_eq_false', Bool.not_eq_eq_eq_not, Bool.not_true, Bool.not_false, Int.not_lt, Int.not_le, beq_iff_eq, beq_eq_false_iff_ne, ne_eq] at g4)
                  have g2 : isOf t (fof l)[k] = false := isOf_no (by assumption) (by assumption)
                  refine go_skip ?_
                  refine go_blk ?_
                  refine go_region rfl ?_
                  refine go_pure0 Tk rfl rfl rfl ?_
                  refine go_pure0 Tk rfl rfl rfl ?_
                  refine go_pure0 Tk rfl rfl rfl ?_
                  refine go_nil ?_
                  refine go_i64 13 rfl (by omega) (by omega) ?_
                  refine go_re 11 (.int .i64 ((((fof l).take (k + 1)).filter (mtch t)).length : Int)) (by show some _ = _; first | (rw [filter_yes (by omega) g1, List.length_append]; rfl) | rw [filter_no (by omega) (by simpa using g1)]) ?_
                  refine go_re 12 (.int .i64 ((((fof l).take (k + 1)).filter (isOf t)).length : Int)) (by show some _ = _; first | (rw [filter_yes (by omega) g2, List.length_append]; rfl) | rw [filter_no (by omega) (by simpa using g2)]) ?_
                  refine go_back (k + 1) ⟨rfl, rfl, rfl, rfl, rfl, rfl, rfl, trivial⟩ (by repeat constructor) (by repeat constructor) (by omega) (by omega)
              · intro g3
                (try simp only [decide_eq_true_eq, decide_eq_false_iff_not, Bool.not_eq_true', Bool.not_eq_false', Bool.not_eq_eq_eq_not, Bool.not_true, Bool.not_false, Int.not_lt, Int.not_le, beq_iff_eq, beq_eq_false_iff_ne, ne_eq] at g3)
                have g2 : isOf t (fof l)[k] = false := isOf_no' g3
                refine go_skip1 rfl rfl ?_
                refine go_skip1 rfl rfl ?_
                refine go_skip1 rfl rfl ?_
                refine go_skip1 rfl rfl ?_
                refine go_skip1 rfl rfl ?_
                refine go_skip2 rfl (by repeat constructor) (by repeat constructor) rfl ?_
                refine go_skip1 rfl rfl ?_
                refine go_skip2 rfl (by repeat constructor) (by repeat constructor) rfl ?_
                refine go_skip1 rfl rfl ?_
                refine go_skip1 rfl rfl ?_
                refine go_pure1 Tk rfl rfl rfl ?_
                refine go_nil ?_
                refine go_env [(3, _), (6, _), (7, _), (10, _), (11, _), (12, _), (13, _), (107, _), (108, _), (109, _), (110, _), (111, _), (112, _), (113, _), (114, _), (115, _), (116, _), (117, _)] ⟨rfl, rfl, rfl, rfl, rfl, rfl, rfl, rfl, rfl, rfl, rfl, rfl, rfl, rfl, rfl, rfl, rfl, rfl, trivial⟩ ?_
                refine go_cond_f rfl ?_
                refine go_skip ?_
                refine go_blk ?_
                refine go_region rfl ?_
                refine go_pure0 Tk rfl rfl rfl ?_
                refine go_pure0 Tk rfl rfl rfl ?_
                refine go_pure0 Tk rfl rfl rfl ?_
                refine go_nil ?_
                refine go_i64 13 rfl (by omega) (by omega) ?_
                refine go_re 11 (.int .i64 ((((fof l).take (k + 1)).filter (mtch t)).length : Int)) (by show some _ = _; first | (rw [filter_yes (by omega) g1, List.length_append]; rfl) | rw [filter_no (by omega) (by simpa using g1)]) ?_
                refine go_re 12 (.int .i64 ((((fof l).take (k + 1)).filter (isOf t)).length : Int)) (by show some _ = _; first | (rw [filter_yes (by omega) g2, List.length_append]; rfl) | rw [filter_no (by omega) (by simpa using g2)]) ?_
                refine go_back (k + 1) ⟨rfl, rfl, rfl, rfl, rfl, rfl, rfl, trivial⟩ (by repeat constructor) (by repeat constructor) (by omega) (by omega)
        · intro hq2
          refine go_exit rfl ?_
          refine go_seq ?_
          rw [List.take_of_length_le (show (fof l).length ≤ k by omega)]
          refine go_region rfl ?_
          refine go_pure0 Tk rfl rfl rfl ?_
          refine go_pure0 Tk rfl rfl rfl ?_
          refine go_pure0 Tk rfl rfl rfl ?_
          refine go_pure0 Tk rfl rfl rfl ?_
          refine go_re 139 (.bool true) (by show some (Value.bool _) = _; first | rfl | simp) ?_
          refine go_pure0 Tk rfl rfl rfl ?_
          refine go_pure0 Tk rfl rfl rfl ?_
          refine go_pure0 Tk rfl rfl rfl ?_
          refine go_pure0 Tk rfl rfl rfl ?_
          refine go_pure0 Tk rfl rfl rfl ?_
          refine go_re 144 (.bool true) (by show some (Value.bool _) = _; first | rfl | simp) ?_
          refine go_pure0 Tk rfl rfl rfl ?_
          refine go_pure0 Tk rfl rfl rfl ?_
          refine go_call (lawWorks10) rfl rfl (by rfl) rfl (by repeat constructor) (by repeat constructor) (fun h => nomatch h) ?_
          rintro _ _ _ ⟨rfl, rfl, rfl⟩
          refine go_pure0 Tk rfl rfl rfl ?_
          refine go_pure0 Tk rfl rfl rfl ?_
          refine go_nil ?_
          refine go_env [(4, _)] ⟨rfl, trivial⟩ ?_
          refine go_ret ⟨rfl, rfl⟩ _ _ (fun a w hp ho hf hs => res1 (by rfl) (.tmp rfl) a w hp ho hf hs) ⟨rfl, rfl, rfl⟩ (by repeat constructor) (by repeat constructor)

end Go.Proofs.Ytdkfpgdfjnaciaa.SL
