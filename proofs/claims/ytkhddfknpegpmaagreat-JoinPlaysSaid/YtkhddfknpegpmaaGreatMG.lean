/- Engine, data and contracts: parts of the proof, put together (Ref13 Law13a Law13b Law13c). -/
import Derived.Test.YtkhddfknpegpmaaGreatMD
import Derived.Test.YtkhddfknpegpmaaGreatMC
import Derived.Test.YtkhddfknpegpmaaGreatMF
/- Contracts of functions of the program (Ref13): what each call comes to, for the laws' proofs. -/
set_option linter.unusedVariables false
set_option linter.unusedSimpArgs false
namespace Go.Proofs.YtkhddfknpegpmaaGreat.SL
open Go 

set_option maxHeartbeats 2000000 in
set_option maxRecDepth 20000 in
theorem ref13Has (L : Option Addr) (lc : Nat) (l : List Fa) (q : Fa) (QA : Option Addr) (qc : Nat) :
    Spec Tryz.prog 20 #[.slice L l.length lc, .agg #[.int .u32 q.p, .slice QA q.a.length qc]] [sl tFa L lc l, sl tU QA qc q.a] [] (fun v Ps' Os' => v = .bool (decide (q ∈ l)) ∧ Ps' = [] ∧ Os' = []) := by
 refine spec_of (fn := Tryz.f20) (args := [.slice L l.length lc, .agg #[.int .u32 q.p, .slice QA q.a.length qc]]) 19 Tryz.func20 rfl (by kernel_rfl) Tryz.ntmps20 (Nat.le_of_ble_eq_true rfl) (fun w0 hp0 hf0 => ?_)
 refine go_seq ?_
 refine go_region rfl ?_
 refine go_box Tk rfl rfl rfl rfl (by rfl) rfl rfl (fun h => nomatch h) ?_
 intro b1
 refine go_pure0 Tk rfl rfl rfl ?_
 refine go_nil ?_
 refine go_env [(0, _), (3, _)] ⟨rfl, rfl, trivial⟩ ?_
 refine go_seq ?_
 refine go_seq ?_
 refine go_len (xs := l) (by repeat constructor) (fun l0 m0 => ?_)
 refine go_region rfl ?_
 refine go_pure0 Tk rfl rfl rfl ?_
 refine go_nil ?_
 refine go_env [(0, _), (3, _), (5, _)] ⟨rfl, rfl, rfl, trivial⟩ ?_
 refine go_block ?_
 refine go_loop' (X := Nat) (fun k => [(5, .int .i64 (k : Int))]) [(0, _), (3, _)] (fun _ => []) (fun k => k ≤ l.length ∧ ¬ q ∈ l.take k) (fun k => l.length - k) (0) ⟨rfl, rfl, rfl, trivial⟩ (by repeat constructor) ⟨by omega, by simp⟩ ?_
 intro k ⟨hk, hz⟩
 refine go_seq ?_
 refine go_seq ?_
 refine go_region rfl ?_
 refine go_pure0 Tk rfl rfl rfl ?_
 refine go_pure0 Tk rfl rfl rfl ?_
 refine go_pure0 Tk rfl rfl rfl ?_
 refine go_pure0 Tk rfl rfl rfl ?_
 refine go_nil ?_
 refine go_env [(0, _), (3, _), (5, _), (9, _)] ⟨rfl, rfl, rfl, rfl, trivial⟩ ?_
 refine go_condD rfl ?_ ?_
 ·intro hq1
  refine go_skip ?_
  refine go_seq ?_
  refine go_block ?_
  refine go_seq ?_
  refine go_elem_fa (xs := l) (by repeat constructor) (k) (List.getElem?_eq_getElem (by omega)) (fun b0 o0 A0 c0 hA => ?_); cases hA
  refine go_draw'  [3, 4] (SL.pre [(1, 0), (1, 1), (1, 2), (2, 3), (2, 4), (0, 5), (1, 6)] .nil) mixed rfl (by kernel_rfl) ?_
  refine go_pure1 Tk rfl rfl rfl ?_
  refine go_pure1 Tk rfl rfl rfl ?_
  refine go_val1 rfl (idx_val Tk rfl rfl rfl rfl rfl (by omega)) rfl ?_
  refine go_val2a rfl (ldv Tk rfl rfl rfl) rfl ?_
  refine go_val2a rfl (ldv Tk rfl rfl rfl) rfl ?_
  refine go_call (refCompare _ _ _ _ _ _ _ _) rfl rfl (by rfl) rfl (by repeat constructor) (by repeat constructor) (fun h => nomatch h) ?_
  rintro _ _ _ ⟨rfl, rfl, rfl⟩
  refine go_pure1 Tk rfl rfl rfl ?_
  refine go_nil ?_
  refine go_env [(0, _), (3, _), (5, _), (18, _)] ⟨rfl, rfl, rfl, rfl, trivial⟩ ?_
  refine go_condD rfl ?_ ?_
  ·intro g1
   refine go_seq ?_
   refine go_region rfl ?_
   refine go_pure0 Tk rfl rfl rfl ?_
   refine go_nil ?_
   refine go_env [(4, _)] ⟨rfl, trivial⟩ ?_
   refine go_ret ⟨rfl, rfl⟩ _ _ (res1 (by rfl) (.tmp rfl)) ⟨by rw [decide_eq_true (show q ∈ l from (cmpF_zero (x := l[k]) (q := q)).1 g1 ▸ List.getElem_mem _)], rfl, rfl⟩ (by repeat constructor) (by repeat constructor)
  ·intro g1
   refine go_skip ?_
   refine go_blk ?_
   refine go_region rfl ?_
   refine go_pure0 Tk rfl rfl rfl ?_
   refine go_pure0 Tk rfl rfl rfl ?_
   refine go_pure0 Tk rfl rfl rfl ?_
   refine go_nil ?_
   refine go_i64 5 rfl (by omega) (by omega) ?_
   refine go_back (k + 1) ⟨rfl, rfl, rfl, trivial⟩ (by repeat constructor) (by repeat constructor) (⟨by omega, not_next (by omega) hz g1⟩) (by omega)
 ·intro hq1
  refine go_exit rfl ?_
  refine go_seq ?_
  refine go_region rfl ?_
  refine go_pure0 Tk rfl rfl rfl ?_
  refine go_nil ?_
  refine go_env [(4, _)] ⟨rfl, trivial⟩ ?_
  refine go_ret ⟨rfl, rfl⟩ _ _ (res1 (by rfl) (.tmp rfl)) ⟨by rw [List.take_of_length_le (by omega)] at hz; rw [decide_eq_false hz], rfl, rfl⟩ (by repeat constructor) (by repeat constructor)

set_option maxHeartbeats 2000000 in
set_option maxRecDepth 20000 in
theorem ref13With (L : Option Addr) (lc : Nat) (l : List Fa) (q : Fa) (QA : Option Addr) (qc : Nat) (hr : rises l) (hn : l.length ≤ 50000000) :
    Spec Tryz.prog 21 #[.slice L l.length lc, .agg #[.int .u32 q.p, .slice QA q.a.length qc]] [sl tFa L lc l, sl tU QA qc q.a] [] (fun v Ps' Os' => ∃ A' c', v = .slice A' (fput l q).length c' ∧ Ps' = [sl tFa A' c' (fput l q)] ∧ Os' = []) := by
 refine spec_of (fn := Tryz.f21) (args := [.slice L l.length lc, .agg #[.int .u32 q.p, .slice QA q.a.length qc]]) 46 Tryz.func21 rfl (by kernel_rfl) Tryz.ntmps21 (Nat.le_of_ble_eq_true rfl) (fun w0 hp0 hf0 => ?_)
 refine go_seq ?_
 refine go_len (xs := l) (by repeat constructor) (fun l0 m0 => ?_)
 refine go_region rfl ?_
 refine go_box Tk rfl rfl rfl rfl (by rfl) rfl rfl (fun h => nomatch h) ?_
 intro bq
 refine go_freeze_pt (b := bq) (by repeat constructor) ?_
 refine go_pure0 Tk rfl rfl rfl ?_
 refine go_nil ?_
 refine go_env [(0, _), (3, _)] ⟨rfl, rfl, trivial⟩ ?_
 refine go_seq ?_
 refine go_seq ?_
 refine go_region rfl ?_
 refine go_pure0 Tk rfl rfl rfl ?_
 refine go_val0 rfl (ldv Tk rfl rfl rfl) rfl ?_
 refine go_call (ref13Has L lc l q QA qc) rfl rfl (by rfl) rfl (by repeat constructor) (by repeat constructor) (fun h => nomatch h) ?_
 rintro _ _ _ ⟨rfl, rfl, rfl⟩
 refine go_nil ?_
 refine go_env [(0, _), (3, _), (9, _)] ⟨rfl, rfl, rfl, trivial⟩ ?_
 refine go_cond rfl ?_ ?_
 ·intro g1
  (try simp only [decide_eq_true_eq, decide_eq_false_iff_not, Bool.not_eq_true', Bool.not_eq_false', Bool.not_eq_eq_eq_not, Bool.not_true, Bool.not_false, Int.not_lt, Int.not_le, beq_iff_eq, beq_eq_false_iff_ne, ne_eq] at g1)
  refine go_seq ?_
  refine go_region rfl ?_
  refine go_pure0 Tk rfl rfl rfl ?_
  refine go_pure0 Tk rfl rfl rfl ?_
  refine go_nil ?_
  refine go_env [(4, _)] ⟨rfl, trivial⟩ ?_
  refine go_ret ⟨rfl, rfl⟩ [sl tFa L lc l] [] (res1 (by rfl) (.tmp rfl)) ⟨L, lc, by rw [fput_yes g1], by rw [fput_yes g1], rfl⟩ (by repeat constructor) (by repeat constructor)
 ·intro g1
  (try simp only [decide_eq_true_eq, decide_eq_false_iff_not, Bool.not_eq_true', Bool.not_eq_false', Bool.not_eq_eq_eq_not, Bool.not_true, Bool.not_false, Int.not_lt, Int.not_le, beq_iff_eq, beq_eq_false_iff_ne, ne_eq] at g1)
  refine go_skip ?_
  refine go_seq ?_
  refine go_region rfl ?_
  refine go_pure0 Tk rfl rfl rfl ?_
  refine go_pure0 Tk rfl rfl rfl ?_
  refine go_pure0 Tk rfl rfl rfl ?_
  refine go_nil ?_
  refine go_env [(0, _), (3, _), (5, _)] ⟨rfl, rfl, rfl, trivial⟩ ?_
  refine go_seq ?_
  refine go_region rfl ?_
  refine go_pure0 Tk rfl rfl rfl ?_
  refine go_own_nil tFa 52 none ?_
  refine go_nil ?_
  refine go_env [(0, _), (3, _), (5, _), (6, _)] ⟨rfl, rfl, rfl, rfl, trivial⟩ ?_
  refine go_seq ?_
  refine go_draw ([cl bq 0 [.int .u32 q.p, .slice QA q.a.length qc]]) ([]) [3] (SL.pre [(1, 0), (1, 1), (2, 3)] (.two (SL.pre [(0, 2), (0, 4), (0, 5), (1, 6)] .nil) (SL.pre [(0, 4), (0, 2), (0, 5), (1, 6)] .nil))) mixed rfl (by kernel_rfl) ?_
  refine go_pure1 Tk rfl rfl rfl ?_
  refine go_pure1 Tk rfl rfl rfl ?_
  refine go_val2a rfl (ldv Tk rfl rfl rfl) rfl ?_
  refine go_two ?_ ?_
  ·skip
   refine go_appendN (T := tFa) (xs := []) (ys := l) Tk rfl rfl rfl rfl rfl rfl rfl rfl rfl (by repeat constructor) rfl (by repeat constructor) (by simp; omega) (by first | exact (fun _ _ _ => satA) | exact (fun h => nomatch h) | exact (fun h => nomatch (Eq.symm h).trans (show _ = false by kernel_rfl))) ?_
   intro A2 c2
   rw [List.nil_append]
   refine go_bslice Tk rfl rfl rfl rfl rfl rfl rfl rfl (fun h => nomatch h) ?_
   intro bn
   refine go_append1 (T := tFa) (xs := l) Tk (q) rfl rfl rfl rfl rfl rfl rfl rfl rfl (by repeat constructor) (by repeat constructor) rfl (ent_fa (by repeat constructor)) (by omega) (by first | exact (fun _ _ _ => satA) | exact (fun h => nomatch h) | exact (fun h => nomatch (Eq.symm h).trans (show _ = false by kernel_rfl))) ?_
   intro A3 c3
   refine go_pure1 Tk rfl rfl rfl ?_
   refine go_nil ?_
   refine go_ol_addr (xs := l ++ [q]) (by repeat constructor) (by simp) (fun bo hA => ?_); subst hA
   refine go_len_ol (xs := l ++ [q]) (by repeat constructor) (fun l3 m3 => ?_)
   have hll : (l ++ [q]).length = l.length + 1 := by simp
   refine go_toY (l := l ++ [q]) (by repeat constructor) (fun ys hy hyl => ?_)
   obtain ⟨xs, w0, rfl, hx, hw⟩ := split_last hy
   have hxl : xs.length = l.length := by rw [← hx]; simp
   rw [show xs ++ [w0] = xs.take l.length ++ w0 :: xs.drop l.length from by rw [← hxl]; simp]
   refine go_env [(3, _), (5, _), (6, _)] ⟨rfl, rfl, rfl, trivial⟩ ?_
   refine go_seq ?_
   refine go_block ?_
   refine go_loop' (X := Nat × Fy) (fun x => [(5, .int .i64 (x.1 : Int))]) [(3, _), (6, _)] (fun x => [ol tFy 52 (some ⟨bo, 0, none⟩) c3 (xs.take x.1 ++ x.2 :: xs.drop x.1)]) (fun x => x.1 ≤ l.length ∧ ∀ y ∈ l.drop x.1, 0 < cF y q) (fun x => x.1) ((l.length, w0)) ⟨rfl, rfl, rfl, trivial⟩ (by repeat constructor) ⟨by omega, by simp⟩ ?_
   intro ⟨n, w⟩ ⟨hk, hz⟩
   simp only at hk hz ⊢
   have hmid := mid_len (l := xs) (n := n) (w := w) (by omega)
   refine go_seq ?_
   refine go_seq ?_
   by_cases hn0 : 0 < n
   ·skip
    refine go_atY (xs := (xs.take n ++ w :: xs.drop n)) (by repeat constructor) (n - 1) (mid_get (by omega) (by omega)) ?_
    refine go_draw'  [7, 8] (SL.pre [(1, 0), (1, 1), (1, 2), (1, 3), (1, 4), (1, 5), (1, 6), (2, 7), (2, 8), (0, 9), (1, 10), (1, 11)] .nil) mixed rfl (by kernel_rfl) ?_
    refine go_pure1 Tk rfl rfl rfl ?_
    refine go_pure1 Tk rfl rfl rfl ?_
    refine go_re 20 (.bool true) (by show some (Value.bool (decide _)) = _; rw [decide_eq_true (by omega)]) ?_
    refine go_pure1 Tk rfl rfl rfl ?_
    refine go_pure1 Tk rfl rfl rfl ?_
    refine go_pure1 Tk rfl rfl rfl ?_
    refine go_pure1 Tk rfl rfl rfl ?_
    refine go_i64 24 rfl (by omega) (by omega) ?_
    refine go_re 24 (.int .i64 ((n - 1 : Nat) : Int)) (by show some (Value.int _ _) = _; rw [show ((n - 1 : Nat) : Int) = (n : Int) - 1 by omega]) ?_
    refine go_val1 rfl (idx_val Tk rfl rfl rfl rfl rfl (by simp; omega)) rfl ?_
    refine go_val2a rfl (load_val Tk rfl rfl rfl (at_olp fcY fcY_eq (xs := (xs.take n ++ w :: xs.drop n)) (by repeat constructor) (n - 1) (mid_get (by omega) (by omega)) rfl rfl) rfl) rfl ?_
    refine go_val2a rfl (ldv Tk rfl rfl rfl) rfl ?_
    refine go_call (refCompare xs[n - 1].f.p xs[n - 1].A xs[n - 1].f.a xs[n - 1].c _ _ _ _) rfl rfl (by rfl) rfl (by repeat constructor) (by repeat constructor) (fun h => nomatch h) ?_
    rintro _ _ _ ⟨rfl, rfl, rfl⟩
    refine go_pure1 Tk rfl rfl rfl ?_
    refine go_pure1 Tk rfl rfl rfl ?_
    refine go_nil ?_
    refine go_env [(3, _), (5, _), (6, _), (22, _), (23, _), (24, _), (25, _), (26, _), (27, _), (28, _), (29, _), (30, _)] ⟨rfl, rfl, rfl, rfl, rfl, rfl, rfl, rfl, rfl, rfl, rfl, rfl, trivial⟩ ?_
    refine go_cond rfl ?_ ?_
    ·intro g2
     (try simp only [decide_eq_true_eq, decide_eq_false_iff_not, Bool.not_eq_true', Bool.not_eq_false', Bool.not_eq_eq_eq_not, Bool.not_true, Bool.not_false, Int.not_lt, Int.not_le, beq_iff_eq, beq_eq_false_iff_ne, ne_eq] at g2)
     refine go_skip ?_
     refine go_block ?_
     refine go_seq ?_
     refine go_region rfl ?_
     refine go_pure0 Tk rfl rfl rfl ?_
     refine go_pure0 Tk rfl rfl rfl ?_
     refine go_pure0 Tk rfl rfl rfl ?_
     refine go_pure0 Tk rfl rfl rfl ?_
     refine go_pure0 Tk rfl rfl rfl ?_
     refine go_i64 35 rfl (by omega) (by omega) ?_
     refine go_re 35 (.int .i64 ((n - 1 : Nat) : Int)) (by show some (Value.int _ _) = _; rw [show ((n - 1 : Nat) : Int) = (n : Int) - 1 by omega]) ?_
     refine go_val0 rfl (idx_val Tk rfl rfl rfl rfl rfl (by simp; omega)) rfl ?_
     refine go_val0 rfl (load_val Tk rfl rfl rfl (at_olp fcY fcY_eq (xs := (xs.take n ++ w :: xs.drop n)) (by repeat constructor) (n - 1) (mid_get (by omega) (by omega)) rfl rfl) rfl) rfl ?_
     refine go_val0 rfl (idx_val Tk rfl rfl rfl rfl rfl (by simp; omega)) rfl ?_
     refine go_store_el (T := tFy) (xs := (xs.take n ++ w :: xs.drop n)) (j := n) Tk (xs[n - 1]) rfl rfl rfl rfl rfl rfl (by repeat constructor) (by omega) rfl rfl (ent_Y (by repeat constructor)) (fun h => nomatch h) ?_
     rw [set_mid (by omega), mid_back (by omega) (by omega)]
     refine go_nil ?_
     refine go_env [(3, _), (5, _), (6, _), (22, _), (23, _), (24, _), (25, _), (26, _), (27, _), (28, _), (29, _)] ⟨rfl, rfl, rfl, rfl, rfl, rfl, rfl, rfl, rfl, rfl, rfl, trivial⟩ ?_
     refine go_region rfl ?_
     refine go_pure0 Tk rfl rfl rfl ?_
     refine go_pure0 Tk rfl rfl rfl ?_
     refine go_i64 40 rfl (by omega) (by omega) ?_
     refine go_re 40 (.int .i64 ((n - 1 : Nat) : Int)) (by show some (Value.int _ _) = _; rw [show ((n - 1 : Nat) : Int) = (n : Int) - 1 by omega]) ?_
     refine go_pure0 Tk rfl rfl rfl ?_
     refine go_nil ?_
     refine go_env [(3, _), (5, _), (6, _), (22, _), (23, _), (24, _), (25, _), (26, _), (27, _), (28, _), (29, _)] ⟨rfl, rfl, rfl, rfl, rfl, rfl, rfl, rfl, rfl, rfl, rfl, trivial⟩ ?_
     refine go_blk ?_
     refine go_back (n - 1, xs[n - 1]) ⟨rfl, rfl, rfl, trivial⟩ (by repeat constructor) (by repeat constructor) ⟨by show n - 1 ≤ _; omega, drop_more (by omega) (by omega) hz (by rw [← getF hx (show n - 1 < xs.length by omega)]; exact g2)⟩ (by show n - 1 < n; omega)
    ·intro g2
     (try simp only [decide_eq_true_eq, decide_eq_false_iff_not, Bool.not_eq_true', Bool.not_eq_false', Bool.not_eq_eq_eq_not, Bool.not_true, Bool.not_false, Int.not_lt, Int.not_le, beq_iff_eq, beq_eq_false_iff_ne, ne_eq] at g2)
     refine go_exit rfl ?_
     refine go_seq ?_
     have hlast : ∀ (h : 0 < n), ¬ 0 < cF (l[n - 1]'(by omega)) q := by
       intro h
       first
       | omega
       | (rw [← getF hx (show n - 1 < xs.length by omega)]; unfold cF; omega)
     refine go_region rfl ?_
     refine go_pure0 Tk rfl rfl rfl ?_
     refine go_pure0 Tk rfl rfl rfl ?_
     refine go_val0 rfl (ldv Tk rfl rfl rfl) rfl ?_
     refine go_val0 rfl (idx_val Tk rfl rfl rfl rfl rfl (by simp; omega)) rfl ?_
     refine go_store_el (T := tFy) (xs := (xs.take n ++ w :: xs.drop n)) (j := n) Tk (⟨q, QA, qc⟩ : Fy) rfl rfl rfl rfl rfl rfl (by repeat constructor) (by omega) rfl rfl (ent_Y (x := ⟨q, QA, qc⟩) (by repeat constructor)) (fun h => nomatch h) ?_
     rw [set_mid (by omega)]
     refine go_ofY (xs := xs.take n ++ (⟨q, QA, qc⟩ : Fy) :: xs.drop n) (by repeat constructor) ?_
     rw [mid_map hx, fput_at g1 hr (by omega) hz hlast, show (l ++ [q]).length = (fput l q).length from by rw [fput_no g1]; simp; omega]
     refine go_freeze_ol (xs := fput l q) (by repeat constructor) ?_
     refine go_nil ?_
     refine go_env [(6, _)] ⟨rfl, trivial⟩ ?_
     refine go_seq ?_
     refine go_region rfl ?_
     refine go_pure0 Tk rfl rfl rfl ?_
     refine go_pure0 Tk rfl rfl rfl ?_
     refine go_nil ?_
     refine go_env [(4, _)] ⟨rfl, trivial⟩ ?_
     refine go_ret ⟨rfl, rfl⟩ _ _ (res1 (by rfl) (.tmp rfl)) ⟨some ⟨bo, 0, none⟩, c3, rfl, rfl, rfl⟩ (by repeat constructor) (by repeat constructor)
   ·skip
    refine go_draw'  [7, 8] (SL.pre [(1, 0), (1, 1), (1, 2), (1, 3), (1, 4), (1, 5), (1, 6), (2, 7), (2, 8), (0, 9), (1, 10), (1, 11)] .nil) mixed rfl (by kernel_rfl) ?_
    refine go_pure1 Tk rfl rfl rfl ?_
    refine go_pure1 Tk rfl rfl rfl ?_
    refine go_re 20 (.bool false) (by show some (Value.bool (decide _)) = _; rw [decide_eq_false (by omega)]) ?_
    refine go_pure1 Tk rfl rfl rfl ?_
    refine go_skip1 rfl rfl ?_
    refine go_skip1 rfl rfl ?_
    refine go_skip1 rfl rfl ?_
    refine go_skip1 rfl rfl ?_
    refine go_skip2 rfl (by repeat constructor) (by repeat constructor) rfl ?_
    refine go_skip2 rfl (by repeat constructor) (by repeat constructor) rfl ?_
    refine go_skip0 rfl rfl ?_
    refine go_skip1 rfl rfl ?_
    refine go_pure1 Tk rfl rfl rfl ?_
    refine go_nil ?_
    refine go_env [(3, _), (5, _), (6, _), (22, _), (23, _), (24, _), (25, _), (26, _), (27, _), (28, _), (29, _), (30, _)] ⟨rfl, rfl, rfl, rfl, rfl, rfl, rfl, rfl, rfl, rfl, rfl, rfl, trivial⟩ ?_
    refine go_cond_f rfl ?_
    refine go_exit rfl ?_
    refine go_seq ?_
    have hlast : ∀ (h : 0 < n), ¬ 0 < cF (l[n - 1]'(by omega)) q := by
      intro h
      first
      | omega
      | (rw [← getF hx (show n - 1 < xs.length by omega)]; unfold cF; omega)
    refine go_region rfl ?_
    refine go_pure0 Tk rfl rfl rfl ?_
    refine go_pure0 Tk rfl rfl rfl ?_
    refine go_val0 rfl (ldv Tk rfl rfl rfl) rfl ?_
    refine go_val0 rfl (idx_val Tk rfl rfl rfl rfl rfl (by simp; omega)) rfl ?_
    refine go_store_el (T := tFy) (xs := (xs.take n ++ w :: xs.drop n)) (j := n) Tk (⟨q, QA, qc⟩ : Fy) rfl rfl rfl rfl rfl rfl (by repeat constructor) (by omega) rfl rfl (ent_Y (x := ⟨q, QA, qc⟩) (by repeat constructor)) (fun h => nomatch h) ?_
    rw [set_mid (by omega)]
    refine go_ofY (xs := xs.take n ++ (⟨q, QA, qc⟩ : Fy) :: xs.drop n) (by repeat constructor) ?_
    rw [mid_map hx, fput_at g1 hr (by omega) hz hlast, show (l ++ [q]).length = (fput l q).length from by rw [fput_no g1]; simp; omega]
    refine go_freeze_ol (xs := fput l q) (by repeat constructor) ?_
    refine go_nil ?_
    refine go_env [(6, _)] ⟨rfl, trivial⟩ ?_
    refine go_seq ?_
    refine go_region rfl ?_
    refine go_pure0 Tk rfl rfl rfl ?_
    refine go_pure0 Tk rfl rfl rfl ?_
    refine go_nil ?_
    refine go_env [(4, _)] ⟨rfl, trivial⟩ ?_
    refine go_ret ⟨rfl, rfl⟩ _ _ (res1 (by rfl) (.tmp rfl)) ⟨some ⟨bo, 0, none⟩, c3, rfl, rfl, rfl⟩ (by repeat constructor) (by repeat constructor)
  refine go_bslice Tk rfl rfl rfl rfl rfl rfl rfl rfl (fun h => nomatch h) ?_
  intro bn
  refine go_appendN (T := tFa) (xs := []) (ys := l) Tk rfl rfl rfl rfl rfl rfl rfl rfl rfl (by repeat constructor) rfl (by repeat constructor) (by simp; omega) (by first | exact (fun _ _ _ => satA) | exact (fun h => nomatch h) | exact (fun h => nomatch (Eq.symm h).trans (show _ = false by kernel_rfl))) ?_
  intro A2 c2
  rw [List.nil_append]
  refine go_append1 (T := tFa) (xs := l) Tk (q) rfl rfl rfl rfl rfl rfl rfl rfl rfl (by repeat constructor) (by repeat constructor) rfl (ent_fa (by repeat constructor)) (by omega) (by first | exact (fun _ _ _ => satA) | exact (fun h => nomatch h) | exact (fun h => nomatch (Eq.symm h).trans (show _ = false by kernel_rfl))) ?_
  intro A3 c3
  refine go_pure1 Tk rfl rfl rfl ?_
  refine go_nil ?_
  refine go_ol_addr (xs := l ++ [q]) (by repeat constructor) (by simp) (fun bo hA => ?_); subst hA
  refine go_len_ol (xs := l ++ [q]) (by repeat constructor) (fun l3 m3 => ?_)
  have hll : (l ++ [q]).length = l.length + 1 := by simp
  refine go_toY (l := l ++ [q]) (by repeat constructor) (fun ys hy hyl => ?_)
  obtain ⟨xs, w0, rfl, hx, hw⟩ := split_last hy
  have hxl : xs.length = l.length := by rw [← hx]; simp
  rw [show xs ++ [w0] = xs.take l.length ++ w0 :: xs.drop l.length from by rw [← hxl]; simp]
  refine go_env [(3, _), (5, _), (6, _)] ⟨rfl, rfl, rfl, trivial⟩ ?_
  refine go_seq ?_
  refine go_block ?_
  refine go_loop' (X := Nat × Fy) (fun x => [(5, .int .i64 (x.1 : Int))]) [(3, _), (6, _)] (fun x => [ol tFy 52 (some ⟨bo, 0, none⟩) c3 (xs.take x.1 ++ x.2 :: xs.drop x.1)]) (fun x => x.1 ≤ l.length ∧ ∀ y ∈ l.drop x.1, 0 < cF y q) (fun x => x.1) ((l.length, w0)) ⟨rfl, rfl, rfl, trivial⟩ (by repeat constructor) ⟨by omega, by simp⟩ ?_
  intro ⟨n, w⟩ ⟨hk, hz⟩
  simp only at hk hz ⊢
  have hmid := mid_len (l := xs) (n := n) (w := w) (by omega)
  refine go_seq ?_
  refine go_seq ?_
  by_cases hn0 : 0 < n
  ·skip
   refine go_atY (xs := (xs.take n ++ w :: xs.drop n)) (by repeat constructor) (n - 1) (mid_get (by omega) (by omega)) ?_
   refine go_draw'  [7, 8] (SL.pre [(1, 0), (1, 1), (1, 2), (1, 3), (1, 4), (1, 5), (1, 6), (2, 7), (2, 8), (0, 9), (1, 10), (1, 11)] .nil) mixed rfl (by kernel_rfl) ?_
   refine go_pure1 Tk rfl rfl rfl ?_
   refine go_pure1 Tk rfl rfl rfl ?_
   refine go_re 20 (.bool true) (by show some (Value.bool (decide _)) = _; rw [decide_eq_true (by omega)]) ?_
   refine go_pure1 Tk rfl rfl rfl ?_
   refine go_pure1 Tk rfl rfl rfl ?_
   refine go_pure1 Tk rfl rfl rfl ?_
   refine go_pure1 Tk rfl rfl rfl ?_
   refine go_i64 24 rfl (by omega) (by omega) ?_
   refine go_re 24 (.int .i64 ((n - 1 : Nat) : Int)) (by show some (Value.int _ _) = _; rw [show ((n - 1 : Nat) : Int) = (n : Int) - 1 by omega]) ?_
   refine go_val1 rfl (idx_val Tk rfl rfl rfl rfl rfl (by simp; omega)) rfl ?_
   refine go_val2a rfl (load_val Tk rfl rfl rfl (at_olp fcY fcY_eq (xs := (xs.take n ++ w :: xs.drop n)) (by repeat constructor) (n - 1) (mid_get (by omega) (by omega)) rfl rfl) rfl) rfl ?_
   refine go_val2a rfl (ldv Tk rfl rfl rfl) rfl ?_
   refine go_call (refCompare xs[n - 1].f.p xs[n - 1].A xs[n - 1].f.a xs[n - 1].c _ _ _ _) rfl rfl (by rfl) rfl (by repeat constructor) (by repeat constructor) (fun h => nomatch h) ?_
   rintro _ _ _ ⟨rfl, rfl, rfl⟩
   refine go_pure1 Tk rfl rfl rfl ?_
   refine go_pure1 Tk rfl rfl rfl ?_
   refine go_nil ?_
   refine go_env [(3, _), (5, _), (6, _), (22, _), (23, _), (24, _), (25, _), (26, _), (27, _), (28, _), (29, _), (30, _)] ⟨rfl, rfl, rfl, rfl, rfl, rfl, rfl, rfl, rfl, rfl, rfl, rfl, trivial⟩ ?_
   refine go_cond rfl ?_ ?_
   ·intro g2
    (try simp only [decide_eq_true_eq, decide_eq_false_iff_not, Bool.not_eq_true', Bool.not_eq_false', Bool.not_eq_eq_eq_not, Bool.not_true, Bool.not_false, Int.not_lt, Int.not_le, beq_iff_eq, beq_eq_false_iff_ne, ne_eq] at g2)
    refine go_skip ?_
    refine go_block ?_
    refine go_seq ?_
    refine go_region rfl ?_
    refine go_pure0 Tk rfl rfl rfl ?_
    refine go_pure0 Tk rfl rfl rfl ?_
    refine go_pure0 Tk rfl rfl rfl ?_
    refine go_pure0 Tk rfl rfl rfl ?_
    refine go_pure0 Tk rfl rfl rfl ?_
    refine go_i64 35 rfl (by omega) (by omega) ?_
    refine go_re 35 (.int .i64 ((n - 1 : Nat) : Int)) (by show some (Value.int _ _) = _; rw [show ((n - 1 : Nat) : Int) = (n : Int) - 1 by omega]) ?_
    refine go_val0 rfl (idx_val Tk rfl rfl rfl rfl rfl (by simp; omega)) rfl ?_
    refine go_val0 rfl (load_val Tk rfl rfl rfl (at_olp fcY fcY_eq (xs := (xs.take n ++ w :: xs.drop n)) (by repeat constructor) (n - 1) (mid_get (by omega) (by omega)) rfl rfl) rfl) rfl ?_
    refine go_val0 rfl (idx_val Tk rfl rfl rfl rfl rfl (by simp; omega)) rfl ?_
    refine go_store_el (T := tFy) (xs := (xs.take n ++ w :: xs.drop n)) (j := n) Tk (xs[n - 1]) rfl rfl rfl rfl rfl rfl (by repeat constructor) (by omega) rfl rfl (ent_Y (by repeat constructor)) (fun h => nomatch h) ?_
    rw [set_mid (by omega), mid_back (by omega) (by omega)]
    refine go_nil ?_
    refine go_env [(3, _), (5, _), (6, _), (22, _), (23, _), (24, _), (25, _), (26, _), (27, _), (28, _), (29, _)] ⟨rfl, rfl, rfl, rfl, rfl, rfl, rfl, rfl, rfl, rfl, rfl, trivial⟩ ?_
    refine go_region rfl ?_
    refine go_pure0 Tk rfl rfl rfl ?_
    refine go_pure0 Tk rfl rfl rfl ?_
    refine go_i64 40 rfl (by omega) (by omega) ?_
    refine go_re 40 (.int .i64 ((n - 1 : Nat) : Int)) (by show some (Value.int _ _) = _; rw [show ((n - 1 : Nat) : Int) = (n : Int) - 1 by omega]) ?_
    refine go_pure0 Tk rfl rfl rfl ?_
    refine go_nil ?_
    refine go_env [(3, _), (5, _), (6, _), (22, _), (23, _), (24, _), (25, _), (26, _), (27, _), (28, _), (29, _)] ⟨rfl, rfl, rfl, rfl, rfl, rfl, rfl, rfl, rfl, rfl, rfl, trivial⟩ ?_
    refine go_blk ?_
    refine go_back (n - 1, xs[n - 1]) ⟨rfl, rfl, rfl, trivial⟩ (by repeat constructor) (by repeat constructor) ⟨by show n - 1 ≤ _; omega, drop_more (by omega) (by omega) hz (by rw [← getF hx (show n - 1 < xs.length by omega)]; exact g2)⟩ (by show n - 1 < n; omega)
   ·intro g2
    (try simp only [decide_eq_true_eq, decide_eq_false_iff_not, Bool.not_eq_true', Bool.not_eq_false', Bool.not_eq_eq_eq_not, Bool.not_true, Bool.not_false, Int.not_lt, Int.not_le, beq_iff_eq, beq_eq_false_iff_ne, ne_eq] at g2)
    refine go_exit rfl ?_
    refine go_seq ?_
    have hlast : ∀ (h : 0 < n), ¬ 0 < cF (l[n - 1]'(by omega)) q := by
      intro h
      first
      | omega
      | (rw [← getF hx (show n - 1 < xs.length by omega)]; unfold cF; omega)
    refine go_region rfl ?_
    refine go_pure0 Tk rfl rfl rfl ?_
    refine go_pure0 Tk rfl rfl rfl ?_
    refine go_val0 rfl (ldv Tk rfl rfl rfl) rfl ?_
    refine go_val0 rfl (idx_val Tk rfl rfl rfl rfl rfl (by simp; omega)) rfl ?_
    refine go_store_el (T := tFy) (xs := (xs.take n ++ w :: xs.drop n)) (j := n) Tk (⟨q, QA, qc⟩ : Fy) rfl rfl rfl rfl rfl rfl (by repeat constructor) (by omega) rfl rfl (ent_Y (x := ⟨q, QA, qc⟩) (by repeat constructor)) (fun h => nomatch h) ?_
    rw [set_mid (by omega)]
    refine go_ofY (xs := xs.take n ++ (⟨q, QA, qc⟩ : Fy) :: xs.drop n) (by repeat constructor) ?_
    rw [mid_map hx, fput_at g1 hr (by omega) hz hlast, show (l ++ [q]).length = (fput l q).length from by rw [fput_no g1]; simp; omega]
    refine go_freeze_ol (xs := fput l q) (by repeat constructor) ?_
    refine go_nil ?_
    refine go_env [(6, _)] ⟨rfl, trivial⟩ ?_
    refine go_seq ?_
    refine go_region rfl ?_
    refine go_pure0 Tk rfl rfl rfl ?_
    refine go_pure0 Tk rfl rfl rfl ?_
    refine go_nil ?_
    refine go_env [(4, _)] ⟨rfl, trivial⟩ ?_
    refine go_ret ⟨rfl, rfl⟩ _ _ (res1 (by rfl) (.tmp rfl)) ⟨some ⟨bo, 0, none⟩, c3, rfl, rfl, rfl⟩ (by repeat constructor) (by repeat constructor)
  ·skip
   refine go_draw'  [7, 8] (SL.pre [(1, 0), (1, 1), (1, 2), (1, 3), (1, 4), (1, 5), (1, 6), (2, 7), (2, 8), (0, 9), (1, 10), (1, 11)] .nil) mixed rfl (by kernel_rfl) ?_
   refine go_pure1 Tk rfl rfl rfl ?_
   refine go_pure1 Tk rfl rfl rfl ?_
   refine go_re 20 (.bool false) (by show some (Value.bool (decide _)) = _; rw [decide_eq_false (by omega)]) ?_
   refine go_pure1 Tk rfl rfl rfl ?_
   refine go_skip1 rfl rfl ?_
   refine go_skip1 rfl rfl ?_
   refine go_skip1 rfl rfl ?_
   refine go_skip1 rfl rfl ?_
   refine go_skip2 rfl (by repeat constructor) (by repeat constructor) rfl ?_
   refine go_skip2 rfl (by repeat constructor) (by repeat constructor) rfl ?_
   refine go_skip0 rfl rfl ?_
   refine go_skip1 rfl rfl ?_
   refine go_pure1 Tk rfl rfl rfl ?_
   refine go_nil ?_
   refine go_env [(3, _), (5, _), (6, _), (22, _), (23, _), (24, _), (25, _), (26, _), (27, _), (28, _), (29, _), (30, _)] ⟨rfl, rfl, rfl, rfl, rfl, rfl, rfl, rfl, rfl, rfl, rfl, rfl, trivial⟩ ?_
   refine go_cond_f rfl ?_
   refine go_exit rfl ?_
   refine go_seq ?_
   have hlast : ∀ (h : 0 < n), ¬ 0 < cF (l[n - 1]'(by omega)) q := by
     intro h
     first
     | omega
     | (rw [← getF hx (show n - 1 < xs.length by omega)]; unfold cF; omega)
   refine go_region rfl ?_
   refine go_pure0 Tk rfl rfl rfl ?_
   refine go_pure0 Tk rfl rfl rfl ?_
   refine go_val0 rfl (ldv Tk rfl rfl rfl) rfl ?_
   refine go_val0 rfl (idx_val Tk rfl rfl rfl rfl rfl (by simp; omega)) rfl ?_
   refine go_store_el (T := tFy) (xs := (xs.take n ++ w :: xs.drop n)) (j := n) Tk (⟨q, QA, qc⟩ : Fy) rfl rfl rfl rfl rfl rfl (by repeat constructor) (by omega) rfl rfl (ent_Y (x := ⟨q, QA, qc⟩) (by repeat constructor)) (fun h => nomatch h) ?_
   rw [set_mid (by omega)]
   refine go_ofY (xs := xs.take n ++ (⟨q, QA, qc⟩ : Fy) :: xs.drop n) (by repeat constructor) ?_
   rw [mid_map hx, fput_at g1 hr (by omega) hz hlast, show (l ++ [q]).length = (fput l q).length from by rw [fput_no g1]; simp; omega]
   refine go_freeze_ol (xs := fput l q) (by repeat constructor) ?_
   refine go_nil ?_
   refine go_env [(6, _)] ⟨rfl, trivial⟩ ?_
   refine go_seq ?_
   refine go_region rfl ?_
   refine go_pure0 Tk rfl rfl rfl ?_
   refine go_pure0 Tk rfl rfl rfl ?_
   refine go_nil ?_
   refine go_env [(4, _)] ⟨rfl, trivial⟩ ?_
   refine go_ret ⟨rfl, rfl⟩ _ _ (res1 (by rfl) (.tmp rfl)) ⟨some ⟨bo, 0, none⟩, c3, rfl, rfl, rfl⟩ (by repeat constructor) (by repeat constructor)

set_option maxHeartbeats 2000000 in
set_option maxRecDepth 20000 in
theorem ref13Sorted (L : Option Addr) (lc : Nat) (l : List Fa) (hn : l.length ≤ 50000000) :
    Spec Tryz.prog 19 #[.slice L l.length lc] [sl tFa L lc l] [] (fun v Ps' Os' => ∃ A' c', v = .slice A' (fof l).length c' ∧ Ps' = [sl tFa A' c' (fof l)] ∧ Os' = []) := by
 refine spec_of (fn := Tryz.f19) (args := [.slice L l.length lc]) 18 Tryz.func19 rfl (by kernel_rfl) Tryz.ntmps19 (Nat.le_of_ble_eq_true rfl) (fun w0 hp0 hf0 => ?_)
 refine go_seq ?_
 refine go_region rfl ?_
 refine go_pure0 Tk rfl rfl rfl ?_
 refine go_nil ?_
 refine go_env [(0, _)] ⟨rfl, trivial⟩ ?_
 refine go_seq ?_
 refine go_len (xs := l) (by repeat constructor) (fun l0 m0 => ?_)
 refine go_region rfl ?_
 refine go_pure0 Tk rfl rfl rfl ?_
 refine go_own_nil tFa 52 none ?_
 refine go_freeze_ol (xs := ([] : List Fa)) (by repeat constructor) ?_
 refine go_nil ?_
 refine go_env [(0, _), (3, _)] ⟨rfl, rfl, trivial⟩ ?_
 refine go_seq ?_
 refine go_seq ?_
 refine go_region rfl ?_
 refine go_pure0 Tk rfl rfl rfl ?_
 refine go_nil ?_
 refine go_env [(0, _), (3, _), (4, _)] ⟨rfl, rfl, rfl, trivial⟩ ?_
 refine go_block ?_
 refine go_loop (X := Nat × Option Addr × Nat) (fun x => [(3, .slice x.2.1 (fof (l.take x.1)).length x.2.2), (4, .int .i64 (x.1 : Int))]) [(0, _)] (fun x => [sl tFa x.2.1 x.2.2 (fof (l.take x.1)), sl tFa L lc l]) (fun _ => []) (fun x => x.1 ≤ l.length) (fun x => l.length - x.1) ((0, none, 0)) ⟨rfl, rfl, rfl, trivial⟩ (by repeat constructor) (by repeat constructor) (by omega) ?_
 intro ⟨k, A1, c1⟩ hk
 simp only at hk ⊢
 refine go_seq ?_
 refine go_seq ?_
 refine go_region rfl ?_
 refine go_pure0 Tk rfl rfl rfl ?_
 refine go_pure0 Tk rfl rfl rfl ?_
 refine go_pure0 Tk rfl rfl rfl ?_
 refine go_pure0 Tk rfl rfl rfl ?_
 refine go_nil ?_
 refine go_env [(0, _), (3, _), (4, _), (8, _)] ⟨rfl, rfl, rfl, rfl, trivial⟩ ?_
 refine go_condD rfl ?_ ?_
 ·intro hq1
  refine go_skip ?_
  refine go_seq ?_
  refine go_block ?_
  refine go_elem_fa (xs := l) (by repeat constructor) (k) (List.getElem?_eq_getElem (by omega)) (fun b0 o0 A0 c0 hA => ?_); cases hA
  refine go_region rfl ?_
  refine go_pure0 Tk rfl rfl rfl ?_
  refine go_pure0 Tk rfl rfl rfl ?_
  refine go_pure0 Tk rfl rfl rfl ?_
  refine go_val0 rfl (idx_val Tk rfl rfl rfl rfl rfl (by omega)) rfl ?_
  refine go_val0 rfl (ldv Tk rfl rfl rfl) rfl ?_
  refine go_call (ref13With A1 c1 (fof (l.take k)) l[k] A0 c0 (rises_fof _) (by have := fof_len (l.take k); rw [List.length_take] at this; omega)) rfl rfl (by rfl) rfl (by repeat constructor) (by repeat constructor) (fun h => nomatch h) ?_
  rintro _ _ _ ⟨A2, c2, rfl, rfl, rfl⟩
  refine go_pure0 Tk rfl rfl rfl ?_
  refine go_nil ?_
  refine go_env [(0, _), (3, _), (4, _)] ⟨rfl, rfl, rfl, trivial⟩ ?_
  refine go_blk ?_
  refine go_region rfl ?_
  refine go_pure0 Tk rfl rfl rfl ?_
  refine go_pure0 Tk rfl rfl rfl ?_
  refine go_pure0 Tk rfl rfl rfl ?_
  refine go_nil ?_
  refine go_i64 4 rfl (by omega) (by omega) ?_
  rw [← fof_next (by omega)]
  refine go_back (k + 1, _, _) ⟨rfl, rfl, rfl, trivial⟩ (by repeat constructor) (by repeat constructor) (by show k + 1 ≤ _; omega) (by show l.length - (k + 1) < l.length - k; omega)
 ·intro hq1
  refine go_exit rfl ?_
  refine go_seq ?_
  rw [List.take_of_length_le (show l.length ≤ k by omega)]
  refine go_region rfl ?_
  refine go_pure0 Tk rfl rfl rfl ?_
  refine go_pure0 Tk rfl rfl rfl ?_
  refine go_nil ?_
  refine go_env [(2, _)] ⟨rfl, trivial⟩ ?_
  refine go_ret ⟨rfl, rfl⟩ _ _ (res1 (by rfl) (.tmp rfl)) ⟨A1, c1, rfl, rfl, rfl⟩ (by repeat constructor) (by repeat constructor)

set_option maxHeartbeats 2000000 in
set_option maxRecDepth 20000 in
theorem ref13Same (A : Option Addr) (c : Nat) (l : List Fa) (B : Option Addr) (d : Nat) (m : List Fa) :
    Spec Tryz.prog 11 #[.slice A l.length c, .slice B m.length d] [sl tFa A c l, sl tFa B d m] [] (fun v Ps' Os' => v = .bool (decide (l = m)) ∧ Ps' = [] ∧ Os' = []) := by
 refine spec_of (fn := Tryz.f11) (args := [.slice A l.length c, .slice B m.length d]) 27 Tryz.func11 rfl (by kernel_rfl) Tryz.ntmps11 (Nat.le_of_ble_eq_true rfl) (fun w0 hp0 hf0 => ?_)
 refine go_seq ?_
 refine go_region rfl ?_
 refine go_pure0 Tk rfl rfl rfl ?_
 refine go_nil ?_
 refine go_env [(0, _), (1, _)] ⟨rfl, rfl, trivial⟩ ?_
 refine go_seq ?_
 refine go_seq ?_
 refine go_len (xs := l) (by repeat constructor) (fun l0 m0 => ?_)
 refine go_len (xs := m) (by repeat constructor) (fun l1 m1 => ?_)
 refine go_region rfl ?_
 refine go_pure0 Tk rfl rfl rfl ?_
 refine go_pure0 Tk rfl rfl rfl ?_
 refine go_pure0 Tk rfl rfl rfl ?_
 refine go_pure0 Tk rfl rfl rfl ?_
 refine go_pure0 Tk rfl rfl rfl ?_
 refine go_nil ?_
 refine go_env [(0, _), (1, _), (10, _)] ⟨rfl, rfl, rfl, trivial⟩ ?_
 refine go_condN rfl ?_ ?_
 ·intro g1
  refine go_seq ?_
  refine go_region rfl ?_
  refine go_pure0 Tk rfl rfl rfl ?_
  refine go_nil ?_
  refine go_env [(4, _)] ⟨rfl, trivial⟩ ?_
  refine go_ret ⟨rfl, rfl⟩ _ _ (res1 (by rfl) (.tmp rfl)) ⟨by first | rw [decide_eq_false (fun e => g1 (by rw [e]))] | rw [decide_eq_false (same_no (k := k) (by omega) (by omega) (by simpa using g2))] | rw [decide_eq_true (same_yes hl (show l.length ≤ k by omega) hz)], rfl, rfl⟩ (by repeat constructor) (by repeat constructor)
 ·intro g1
  refine go_skip ?_
  refine go_seq ?_
  refine go_seq ?_
  have hl : l.length = m.length := by omega
  refine go_region rfl ?_
  refine go_pure0 Tk rfl rfl rfl ?_
  refine go_nil ?_
  refine go_env [(0, _), (1, _), (5, _)] ⟨rfl, rfl, rfl, trivial⟩ ?_
  refine go_block ?_
  refine go_loop' (X := Nat) (fun k => [(5, .int .i64 (k : Int))]) [(0, _), (1, _)] (fun _ => []) (fun k => k ≤ l.length ∧ l.take k = m.take k) (fun k => l.length - k) (0) ⟨rfl, rfl, rfl, trivial⟩ (by repeat constructor) ⟨by omega, by simp⟩ ?_
  intro k ⟨hk, hz⟩
  refine go_seq ?_
  refine go_seq ?_
  refine go_region rfl ?_
  refine go_pure0 Tk rfl rfl rfl ?_
  refine go_pure0 Tk rfl rfl rfl ?_
  refine go_pure0 Tk rfl rfl rfl ?_
  refine go_pure0 Tk rfl rfl rfl ?_
  refine go_nil ?_
  refine go_env [(0, _), (1, _), (5, _), (14, _)] ⟨rfl, rfl, rfl, rfl, trivial⟩ ?_
  refine go_condD rfl ?_ ?_
  ·intro hq1
   refine go_skip ?_
   refine go_seq ?_
   refine go_block ?_
   refine go_seq ?_
   refine go_elem_fa (xs := l) (c := c) (by repeat constructor) (k) (List.getElem?_eq_getElem (by omega)) (fun b0 o0 A0 c0 hA => ?_); cases hA
   refine go_elem_fa (xs := m) (c := d) (by repeat constructor) (k) (List.getElem?_eq_getElem (by omega)) (fun b2 o2 A2 c2 hA => ?_); cases hA
   refine go_draw'  [3, 7] (SL.pre [(1, 0), (1, 1), (1, 2), (1, 4), (1, 5), (1, 6), (2, 3), (2, 7), (0, 8), (1, 9)] .nil) mixed rfl (by kernel_rfl) ?_
   refine go_pure1 Tk rfl rfl rfl ?_
   refine go_pure1 Tk rfl rfl rfl ?_
   refine go_val1 rfl (idx_val Tk rfl rfl rfl rfl rfl (by omega)) rfl ?_
   refine go_pure1 Tk rfl rfl rfl ?_
   refine go_pure1 Tk rfl rfl rfl ?_
   refine go_val1 rfl (idx_val Tk rfl rfl rfl rfl rfl (by omega)) rfl ?_
   refine go_val2a rfl (ldv Tk rfl rfl rfl) rfl ?_
   refine go_val2a rfl (ldv Tk rfl rfl rfl) rfl ?_
   refine go_call (refCompare _ _ _ _ _ _ _ _) rfl rfl (by rfl) rfl (by repeat constructor) (by repeat constructor) (fun h => nomatch h) ?_
   rintro _ _ _ ⟨rfl, rfl, rfl⟩
   refine go_pure1 Tk rfl rfl rfl ?_
   refine go_nil ?_
   refine go_env [(0, _), (1, _), (5, _), (26, _)] ⟨rfl, rfl, rfl, rfl, trivial⟩ ?_
   refine go_condN rfl ?_ ?_
   ·intro g2
    refine go_seq ?_
    refine go_region rfl ?_
    refine go_pure0 Tk rfl rfl rfl ?_
    refine go_nil ?_
    refine go_env [(4, _)] ⟨rfl, trivial⟩ ?_
    refine go_ret ⟨rfl, rfl⟩ _ _ (res1 (by rfl) (.tmp rfl)) ⟨by first | rw [decide_eq_false (fun e => g1 (by rw [e]))] | rw [decide_eq_false (same_no (k := k) (by omega) (by omega) (by simpa using g2))] | rw [decide_eq_true (same_yes hl (show l.length ≤ k by omega) hz)], rfl, rfl⟩ (by repeat constructor) (by repeat constructor)
   ·intro g2
    refine go_skip ?_
    refine go_blk ?_
    refine go_region rfl ?_
    refine go_pure0 Tk rfl rfl rfl ?_
    refine go_pure0 Tk rfl rfl rfl ?_
    refine go_pure0 Tk rfl rfl rfl ?_
    refine go_nil ?_
    refine go_i64 5 rfl (by omega) (by omega) ?_
    refine go_back (k + 1) ⟨rfl, rfl, rfl, trivial⟩ (by repeat constructor) (by repeat constructor) (⟨by omega, take_next (by omega) (by omega) hz (cmpF_zero.1 (by simpa using g2))⟩) (by omega)
  ·intro hq1
   refine go_exit rfl ?_
   refine go_seq ?_
   refine go_region rfl ?_
   refine go_pure0 Tk rfl rfl rfl ?_
   refine go_nil ?_
   refine go_env [(4, _)] ⟨rfl, trivial⟩ ?_
   refine go_ret ⟨rfl, rfl⟩ _ _ (res1 (by rfl) (.tmp rfl)) ⟨by first | rw [decide_eq_false (fun e => g1 (by rw [e]))] | rw [decide_eq_false (same_no (k := k) (by omega) (by omega) (by simpa using g2))] | rw [decide_eq_true (same_yes hl (show l.length ≤ k by omega) hz)], rfl, rfl⟩ (by repeat constructor) (by repeat constructor)

end Go.Proofs.YtkhddfknpegpmaaGreat.SL

/- Contracts of functions of the program (Law13a): what each call comes to, for the laws' proofs. -/
set_option linter.unusedVariables false
set_option linter.unusedSimpArgs false
namespace Go.Proofs.YtkhddfknpegpmaaGreat.SL
open Go 

set_option maxHeartbeats 2000000 in
set_option maxRecDepth 20000 in
theorem law13F (p : Int) (A : Option Addr) (n c : Nat) :
    Spec Tryz.prog 29 #[.int .u32 p, .slice A n c] [] [] (fun v Ps' Os' => v = .agg #[.int .u32 p, .slice A n c] ∧ Ps' = [] ∧ Os' = []) := by
 refine spec_of (fn := Tryz.f29) (args := [.int .u32 p, .slice A n c]) 8 Tryz.func29 rfl (by kernel_rfl) Tryz.ntmps29 (Nat.le_of_ble_eq_true rfl) (fun w0 hp0 hf0 => ?_)
 refine go_seq ?_
 refine go_region rfl ?_
 refine go_alloc Tk rfl rfl rfl (by rfl) rfl rfl (fun h => nomatch h) ?_
 intro b1
 refine go_nil ?_
 refine go_env [(0, _), (1, _), (4, _)] ⟨rfl, rfl, rfl, trivial⟩ ?_
 refine go_seq ?_
 refine go_region rfl ?_
 refine go_pure0 Tk rfl rfl rfl ?_
 refine go_pure0 Tk rfl rfl rfl ?_
 refine go_val0 rfl (fun a w hp ho hf hs => build_val Tk rfl rfl rfl (by rfl) a w hf) rfl ?_
 refine go_store Tk rfl rfl rfl rfl rfl rfl (by repeat constructor) rfl rfl (by rfl) (fun h => nomatch h) ?_
 refine go_nil ?_
 refine go_env [(4, _)] ⟨rfl, trivial⟩ ?_
 refine go_ret ⟨rfl, rfl⟩ _ _ (res1 (by rfl) (.cell rfl (rdv Tk rfl))) ⟨rfl, rfl, rfl⟩ (by repeat constructor) (by repeat constructor)

set_option maxHeartbeats 2000000 in
set_option maxRecDepth 20000 in
theorem law11A (p : Int) (A : Option Addr) (n c : Nat) :
    Spec Tryz.prog 25 #[.int .u32 p, .slice A n c] [] [] (fun v Ps' Os' => v = .agg #[.int .u32 p, .slice A n c] ∧ Ps' = [] ∧ Os' = []) := by
 refine spec_of (fn := Tryz.f25) (args := [.int .u32 p, .slice A n c]) 8 Tryz.func25 rfl (by kernel_rfl) Tryz.ntmps25 (Nat.le_of_ble_eq_true rfl) (fun w0 hp0 hf0 => ?_)
 refine go_seq ?_
 refine go_region rfl ?_
 refine go_alloc Tk rfl rfl rfl (by rfl) rfl rfl (fun h => nomatch h) ?_
 intro b1
 refine go_nil ?_
 refine go_env [(0, _), (1, _), (4, _)] ⟨rfl, rfl, rfl, trivial⟩ ?_
 refine go_seq ?_
 refine go_region rfl ?_
 refine go_pure0 Tk rfl rfl rfl ?_
 refine go_pure0 Tk rfl rfl rfl ?_
 refine go_val0 rfl (fun a w hp ho hf hs => build_val Tk rfl rfl rfl (by rfl) a w hf) rfl ?_
 refine go_store Tk rfl rfl rfl rfl rfl rfl (by repeat constructor) rfl rfl (by rfl) (fun h => nomatch h) ?_
 refine go_nil ?_
 refine go_env [(4, _)] ⟨rfl, trivial⟩ ?_
 refine go_ret ⟨rfl, rfl⟩ _ _ (res1 (by rfl) (.cell rfl (rdv Tk rfl))) ⟨rfl, rfl, rfl⟩ (by repeat constructor) (by repeat constructor)

set_option maxHeartbeats 2000000 in
set_option maxRecDepth 20000 in
theorem law11V (n : Int) :
    Spec Tryz.prog 26 #[.int .u32 n] [] [] (fun v Ps' Os' => v = .agg #[.bool true, .int .u32 n] ∧ Ps' = [] ∧ Os' = []) := by
 refine spec_of (fn := Tryz.f26) (args := [.int .u32 n]) 5 Tryz.func26 rfl (by kernel_rfl) Tryz.ntmps26 (Nat.le_of_ble_eq_true rfl) (fun w0 hp0 hf0 => ?_)
 refine go_seq ?_
 refine go_region rfl ?_
 refine go_alloc Tk rfl rfl rfl (by rfl) rfl rfl (fun h => nomatch h) ?_
 intro b1
 refine go_nil ?_
 refine go_env [(0, _), (2, _)] ⟨rfl, rfl, trivial⟩ ?_
 refine go_seq ?_
 refine go_region rfl ?_
 refine go_pure0 Tk rfl rfl rfl ?_
 refine go_val0 rfl (fun a w hp ho hf hs => build_val Tk rfl rfl rfl (by rfl) a w hf) rfl ?_
 refine go_store Tk rfl rfl rfl rfl rfl rfl (by repeat constructor) rfl rfl (by rfl) (fun h => nomatch h) ?_
 refine go_nil ?_
 refine go_env [(2, _)] ⟨rfl, trivial⟩ ?_
 refine go_ret ⟨rfl, rfl⟩ _ _ (res1 (by rfl) (.cell rfl (rdv Tk rfl))) ⟨rfl, rfl, rfl⟩ (by repeat constructor) (by repeat constructor)

set_option maxHeartbeats 2000000 in
set_option maxRecDepth 20000 in
theorem law11Yes (p : Int) (A : Option Addr) (n c : Nat) :
    Spec Tryz.prog 27 #[.int .u32 p, .slice A n c] [] [] (fun v Ps' Os' => v = .agg #[.bool false, .int .u32 p, .slice A n c] ∧ Ps' = [] ∧ Os' = []) := by
 refine spec_of (fn := Tryz.f27) (args := [.int .u32 p, .slice A n c]) 9 Tryz.func27 rfl (by kernel_rfl) Tryz.ntmps27 (Nat.le_of_ble_eq_true rfl) (fun w0 hp0 hf0 => ?_)
 refine go_seq ?_
 refine go_region rfl ?_
 refine go_alloc Tk rfl rfl rfl (by rfl) rfl rfl (fun h => nomatch h) ?_
 intro b1
 refine go_nil ?_
 refine go_env [(0, _), (1, _), (4, _)] ⟨rfl, rfl, rfl, trivial⟩ ?_
 refine go_seq ?_
 refine go_region rfl ?_
 refine go_pure0 Tk rfl rfl rfl ?_
 refine go_pure0 Tk rfl rfl rfl ?_
 refine go_call (law11A _ _ _ _) rfl rfl (by rfl) rfl (by repeat constructor) (by repeat constructor) (fun h => nomatch h) ?_
 rintro _ _ _ ⟨rfl, rfl, rfl⟩
 refine go_val0 rfl (fun a w hp ho hf hs => build_val Tk rfl rfl rfl (by rfl) a w hf) rfl ?_
 refine go_store Tk rfl rfl rfl rfl rfl rfl (by repeat constructor) rfl rfl (by rfl) (fun h => nomatch h) ?_
 refine go_nil ?_
 refine go_env [(4, _)] ⟨rfl, trivial⟩ ?_
 refine go_ret ⟨rfl, rfl⟩ _ _ (res1 (by rfl) (.cell rfl (rdv Tk rfl))) ⟨rfl, rfl, rfl⟩ (by repeat constructor) (by repeat constructor)

set_option maxHeartbeats 2000000 in
set_option maxRecDepth 20000 in
theorem law11No (p : Int) (A : Option Addr) (n c : Nat) :
    Spec Tryz.prog 28 #[.int .u32 p, .slice A n c] [] [] (fun v Ps' Os' => v = .agg #[.bool true, .int .u32 p, .slice A n c] ∧ Ps' = [] ∧ Os' = []) := by
 refine spec_of (fn := Tryz.f28) (args := [.int .u32 p, .slice A n c]) 9 Tryz.func28 rfl (by kernel_rfl) Tryz.ntmps28 (Nat.le_of_ble_eq_true rfl) (fun w0 hp0 hf0 => ?_)
 refine go_seq ?_
 refine go_region rfl ?_
 refine go_alloc Tk rfl rfl rfl (by rfl) rfl rfl (fun h => nomatch h) ?_
 intro b1
 refine go_nil ?_
 refine go_env [(0, _), (1, _), (4, _)] ⟨rfl, rfl, rfl, trivial⟩ ?_
 refine go_seq ?_
 refine go_region rfl ?_
 refine go_pure0 Tk rfl rfl rfl ?_
 refine go_pure0 Tk rfl rfl rfl ?_
 refine go_call (law11A _ _ _ _) rfl rfl (by rfl) rfl (by repeat constructor) (by repeat constructor) (fun h => nomatch h) ?_
 rintro _ _ _ ⟨rfl, rfl, rfl⟩
 refine go_val0 rfl (fun a w hp ho hf hs => build_val Tk rfl rfl rfl (by rfl) a w hf) rfl ?_
 refine go_store Tk rfl rfl rfl rfl rfl rfl (by repeat constructor) rfl rfl (by rfl) (fun h => nomatch h) ?_
 refine go_nil ?_
 refine go_env [(4, _)] ⟨rfl, trivial⟩ ?_
 refine go_ret ⟨rfl, rfl⟩ _ _ (res1 (by rfl) (.cell rfl (rdv Tk rfl))) ⟨rfl, rfl, rfl⟩ (by repeat constructor) (by repeat constructor)

set_option maxHeartbeats 2000000 in
set_option maxRecDepth 20000 in
theorem law11If (p : Int) (A : Option Addr) (n c : Nat) (B : Option Addr) (m d : Nat) :
    Spec Tryz.prog 24 #[.agg #[.int .u32 p, .slice A n c], .slice B m d] [] [] (fun v Ps' Os' => v = .agg #[.int .u32 p, .slice A n c, .slice B m d] ∧ Ps' = [] ∧ Os' = []) := by
 refine spec_of (fn := Tryz.f24) (args := [.agg #[.int .u32 p, .slice A n c], .slice B m d]) 8 Tryz.func24 rfl (by kernel_rfl) Tryz.ntmps24 (Nat.le_of_ble_eq_true rfl) (fun w0 hp0 hf0 => ?_)
 refine go_seq ?_
 refine go_region rfl ?_
 refine go_box Tk rfl rfl rfl rfl (by rfl) rfl rfl (fun h => nomatch h) ?_
 intro b1
 refine go_alloc Tk rfl rfl rfl (by rfl) rfl rfl (fun h => nomatch h) ?_
 intro b2
 refine go_nil ?_
 refine go_env [(1, _), (2, _), (4, _)] ⟨rfl, rfl, rfl, trivial⟩ ?_
 refine go_seq ?_
 refine go_region rfl ?_
 refine go_val0 rfl (ldv Tk rfl rfl rfl) rfl ?_
 refine go_pure0 Tk rfl rfl rfl ?_
 refine go_val0 rfl (fun a w hp ho hf hs => build_val Tk rfl rfl rfl (by rfl) a w hf) rfl ?_
 refine go_store Tk rfl rfl rfl rfl rfl rfl (by repeat constructor) rfl rfl (by rfl) (fun h => nomatch h) ?_
 refine go_nil ?_
 refine go_env [(4, _)] ⟨rfl, trivial⟩ ?_
 refine go_ret ⟨rfl, rfl⟩ _ _ (res1 (by rfl) (.cell rfl (rdv Tk rfl))) ⟨rfl, rfl, rfl⟩ (by repeat constructor) (by repeat constructor)

abbrev CLok (c : Cl) : Prop := c.b.length ≤ 30 ∧ c.h.a.length ≤ 30 ∧ ∀ x ∈ c.b, x.a.a.length ≤ 30
abbrev few11P (l : List Cl) (F : List Fa) : Prop := ((l.length ≤ 60 ∨ 400 < l.length) ∧ l.length ≤ 1000 ∧ F.length ≤ 120) ∧ (∀ c ∈ l, CLok c) ∧ ∀ x ∈ F, x.a.length ≤ 30
def few11 (l : List Cl) (F : List Fa) : Bool := decide (few11P l F)
theorem few11_no {l : List Cl} {F : List Fa} (h : ¬ few11P l F) : few11 l F = false := by unfold few11; rw [decide_eq_false_iff_not]; exact h
theorem few11_yes {l : List Cl} {F : List Fa} (h : few11P l F) : few11 l F = true := by unfold few11; rw [decide_eq_true_iff]; exact h
theorem few11_of {l : List Cl} {F : List Fa} (h : few11 l F = true) : few11P l F := by unfold few11 at h; exact of_decide_eq_true h
def pos (b : List Li) : Nat := (b.filter fun l => !l.no).length
theorem pos_yes {b : List Li} {k : Nat} (hk : k < b.length) (e : b[k].no = false) : pos (b.take (k + 1)) = pos (b.take k) + 1 := by
  unfold pos
  rw [List.take_succ_eq_append_getElem hk, List.filter_append, List.length_append, List.filter_cons_of_pos (by simpa using e)]; rfl
theorem pos_no {b : List Li} {k : Nat} (hk : k < b.length) (e : b[k].no = true) : pos (b.take (k + 1)) = pos (b.take k) := by
  unfold pos
  rw [List.take_succ_eq_append_getElem hk, List.filter_append, List.length_append, List.filter_cons_of_neg (by simp [e])]; simp
theorem pos_le (b : List Li) (k : Nat) : pos (b.take k) ≤ k := by
  unfold pos
  have := List.length_filter_le (fun l : Li => !l.no) (b.take k)
  rw [List.length_take] at this
  omega
def smallC (c : Cl) (n : Nat) : Bool := decide (c.b.length ≤ 30 ∧ (pos c.b ≤ 3 ∧ n ≤ 60 ∨ pos c.b ≤ 8 ∧ n ≤ 8))
abbrev few13P (c : Cl) (a b d : List Fa) : Prop := a.length + b.length ≤ 60 ∧ d.length ≤ 60 ∧ smallC c (a.length + b.length) = true ∧ few11 [c] (a ++ b ++ d) = true
def few13 (c : Cl) (a b d : List Fa) : Bool := decide (few13P c a b d)
theorem few13_no {c : Cl} {a b d : List Fa} (h : ¬ few13P c a b d) : few13 c a b d = false := by unfold few13; rw [decide_eq_false_iff_not]; exact h
theorem few13_eq {c : Cl} {a b d : List Fa} (h1 : a.length + b.length ≤ 60) (h2 : d.length ≤ 60) (h3 : smallC c (a.length + b.length) = true) : few11 [c] (a ++ b ++ d) = few13 c a b d := by
  unfold few13 few13P
  cases e : few11 [c] (a ++ b ++ d) <;> simp [h1, h2, h3]
theorem few13_of {c : Cl} {a b d : List Fa} (h : few13 c a b d = true) : few13P c a b d := by unfold few13 at h; exact of_decide_eq_true h

set_option maxHeartbeats 2000000 in
set_option maxRecDepth 20000 in
theorem law11Few (A : Option Addr) (c : Nat) (l : List Cl) (B : Option Addr) (d : Nat) (F : List Fa) :
    Spec Tryz.prog 23 #[.slice A l.length c, .slice B F.length d] [sl tCl A c l, sl tFa B d F] [] (fun v Ps' Os' => v = .bool (few11 l F) ∧ Ps' = [] ∧ Os' = []) := by
 refine spec_of (fn := Tryz.f23) (args := [.slice A l.length c, .slice B F.length d]) 84 Tryz.func23 rfl (by kernel_rfl) Tryz.ntmps23 (Nat.le_of_ble_eq_true rfl) (fun w0 hp0 hf0 => ?_)
 refine go_seq ?_
 refine go_region rfl ?_
 refine go_pure0 Tk rfl rfl rfl ?_
 refine go_nil ?_
 refine go_env [(0, _), (1, _)] ⟨rfl, rfl, trivial⟩ ?_
 refine go_seq ?_
 refine go_seq ?_
 refine go_len (xs := l) (by repeat constructor) (fun l0 m0 => ?_)
 refine go_len (xs := F) (by repeat constructor) (fun l1 m1 => ?_)
 refine go_region rfl ?_
 refine go_pure0 Tk rfl rfl rfl ?_
 refine go_pure0 Tk rfl rfl rfl ?_
 refine go_pure0 Tk rfl rfl rfl ?_
 refine go_pure0 Tk rfl rfl rfl ?_
 refine go_known 11 rfl ?_ ?_
 ·intro g1
  (try simp only [decide_eq_true_eq, decide_eq_false_iff_not, Bool.not_eq_true', Bool.not_eq_false', Bool.not_eq_eq_eq_not, Bool.not_true, Bool.not_false, Int.not_lt, Int.not_le, beq_iff_eq, beq_eq_false_iff_ne, ne_eq] at g1)
  refine go_pure0 Tk rfl rfl rfl ?_
  refine go_pure0 Tk rfl rfl rfl ?_
  refine go_pure0 Tk rfl rfl rfl ?_
  refine go_pure0 Tk rfl rfl rfl ?_
  refine go_pure0 Tk rfl rfl rfl ?_
  refine go_known 16 rfl ?_ ?_
  ·intro g2
   (try simp only [decide_eq_true_eq, decide_eq_false_iff_not, Bool.not_eq_true', Bool.not_eq_false', Bool.not_eq_eq_eq_not, Bool.not_true, Bool.not_false, Int.not_lt, Int.not_le, beq_iff_eq, beq_eq_false_iff_ne, ne_eq] at g2)
   refine go_skip0 rfl rfl ?_
   refine go_skip0 rfl rfl ?_
   refine go_skip0 rfl rfl ?_
   refine go_pure0 Tk rfl rfl rfl ?_
   refine go_pure0 Tk rfl rfl rfl ?_
   refine go_skip0 rfl rfl ?_
   refine go_skip0 rfl rfl ?_
   refine go_skip0 rfl rfl ?_
   refine go_pure0 Tk rfl rfl rfl ?_
   refine go_nil ?_
   refine go_env [(0, _), (1, _), (25, _)] ⟨rfl, rfl, rfl, trivial⟩ ?_
   refine go_cond_t rfl ?_
   refine go_seq ?_
   refine go_region rfl ?_
   refine go_pure0 Tk rfl rfl rfl ?_
   refine go_nil ?_
   refine go_env [(4, _)] ⟨rfl, trivial⟩ ?_
   refine go_ret ⟨rfl, rfl⟩ _ _ (res1 (by rfl) (.tmp rfl)) ⟨by first | rw [few11_no (fun h => by have := h.1; omega)] | rw [few11_no (fun h => by have := h.2.1 l[k] (List.getElem_mem _); have h1 := this.1; omega)] | rw [few11_no (fun h => by have := h.2.1 l[k] (List.getElem_mem _); have h1 := this.2.1; omega)] | rw [few11_no (fun h => by have := (h.2.1 l[k] (List.getElem_mem _)).2.2 l[k].b[m] (List.getElem_mem _); omega)] | rw [few11_no (fun h => by have := h.2.2 F[j] (List.getElem_mem _); omega)] | rw [few11_yes ⟨⟨by omega, by omega, by omega⟩, hz, by rw [List.take_of_length_le (by omega)] at hx; exact hx⟩], rfl, rfl⟩ (by repeat constructor) (by repeat constructor)
  ·intro g2
   (try simp only [decide_eq_true_eq, decide_eq_false_iff_not, Bool.not_eq_true', Bool.not_eq_false', Bool.not_eq_eq_eq_not, Bool.not_true, Bool.not_false, Int.not_lt, Int.not_le, beq_iff_eq, beq_eq_false_iff_ne, ne_eq] at g2)
   refine go_pure0 Tk rfl rfl rfl ?_
   refine go_pure0 Tk rfl rfl rfl ?_
   refine go_pure0 Tk rfl rfl rfl ?_
   refine go_pure0 Tk rfl rfl rfl ?_
   refine go_pure0 Tk rfl rfl rfl ?_
   refine go_known 21 rfl ?_ ?_
   ·intro g3
    (try simp only [decide_eq_true_eq, decide_eq_false_iff_not, Bool.not_eq_true', Bool.not_eq_false', Bool.not_eq_eq_eq_not, Bool.not_true, Bool.not_false, Int.not_lt, Int.not_le, beq_iff_eq, beq_eq_false_iff_ne, ne_eq] at g3)
    refine go_skip0 rfl rfl ?_
    refine go_skip0 rfl rfl ?_
    refine go_skip0 rfl rfl ?_
    refine go_pure0 Tk rfl rfl rfl ?_
    refine go_nil ?_
    refine go_env [(0, _), (1, _), (25, _)] ⟨rfl, rfl, rfl, trivial⟩ ?_
    refine go_cond_t rfl ?_
    refine go_seq ?_
    refine go_region rfl ?_
    refine go_pure0 Tk rfl rfl rfl ?_
    refine go_nil ?_
    refine go_env [(4, _)] ⟨rfl, trivial⟩ ?_
    refine go_ret ⟨rfl, rfl⟩ _ _ (res1 (by rfl) (.tmp rfl)) ⟨by first | rw [few11_no (fun h => by have := h.1; omega)] | rw [few11_no (fun h => by have := h.2.1 l[k] (List.getElem_mem _); have h1 := this.1; omega)] | rw [few11_no (fun h => by have := h.2.1 l[k] (List.getElem_mem _); have h1 := this.2.1; omega)] | rw [few11_no (fun h => by have := (h.2.1 l[k] (List.getElem_mem _)).2.2 l[k].b[m] (List.getElem_mem _); omega)] | rw [few11_no (fun h => by have := h.2.2 F[j] (List.getElem_mem _); omega)] | rw [few11_yes ⟨⟨by omega, by omega, by omega⟩, hz, by rw [List.take_of_length_le (by omega)] at hx; exact hx⟩], rfl, rfl⟩ (by repeat constructor) (by repeat constructor)
   ·intro g3
    (try simp only [decide_eq_true_eq, decide_eq_false_iff_not, Bool.not_eq_true', Bool.not_eq_false', Bool.not_eq_eq_eq_not, Bool.not_true, Bool.not_false, Int.not_lt, Int.not_le, beq_iff_eq, beq_eq_false_iff_ne, ne_eq] at g3)
    refine go_pure0 Tk rfl rfl rfl ?_
    refine go_pure0 Tk rfl rfl rfl ?_
    refine go_pure0 Tk rfl rfl rfl ?_
    refine go_pure0 Tk rfl rfl rfl ?_
    refine go_nil ?_
    refine go_env [(0, _), (1, _), (25, _)] ⟨rfl, rfl, rfl, trivial⟩ ?_
    refine go_cond rfl ?_ ?_
    ·intro g4
     (try simp only [decide_eq_true_eq, decide_eq_false_iff_not, Bool.not_eq_true', Bool.not_eq_false', Bool.not_eq_eq_eq_not, Bool.not_true, Bool.not_false, Int.not_lt, Int.not_le, beq_iff_eq, beq_eq_false_iff_ne, ne_eq] at g4)
     refine go_seq ?_
     refine go_region rfl ?_
     refine go_pure0 Tk rfl rfl rfl ?_
     refine go_nil ?_
     refine go_env [(4, _)] ⟨rfl, trivial⟩ ?_
     refine go_ret ⟨rfl, rfl⟩ _ _ (res1 (by rfl) (.tmp rfl)) ⟨by first | rw [few11_no (fun h => by have := h.1; omega)] | rw [few11_no (fun h => by have := h.2.1 l[k] (List.getElem_mem _); have h1 := this.1; omega)] | rw [few11_no (fun h => by have := h.2.1 l[k] (List.getElem_mem _); have h1 := this.2.1; omega)] | rw [few11_no (fun h => by have := (h.2.1 l[k] (List.getElem_mem _)).2.2 l[k].b[m] (List.getElem_mem _); omega)] | rw [few11_no (fun h => by have := h.2.2 F[j] (List.getElem_mem _); omega)] | rw [few11_yes ⟨⟨by omega, by omega, by omega⟩, hz, by rw [List.take_of_length_le (by omega)] at hx; exact hx⟩], rfl, rfl⟩ (by repeat constructor) (by repeat constructor)
    ·intro g4
     (try simp only [decide_eq_true_eq, decide_eq_false_iff_not, Bool.not_eq_true', Bool.not_eq_false', Bool.not_eq_eq_eq_not, Bool.not_true, Bool.not_false, Int.not_lt, Int.not_le, beq_iff_eq, beq_eq_false_iff_ne, ne_eq] at g4)
     refine go_skip ?_
     refine go_seq ?_
     refine go_seq ?_
     refine go_region rfl ?_
     refine go_pure0 Tk rfl rfl rfl ?_
     refine go_nil ?_
     refine go_env [(0, _), (1, _), (5, _)] ⟨rfl, rfl, rfl, trivial⟩ ?_
     refine go_block ?_
     refine go_loop' (X := Nat) (fun k => [(5, .int .i64 (k : Int))]) [(0, _), (1, _)] (fun _ => []) (fun k => k ≤ l.length ∧ ∀ x ∈ l.take k, CLok x) (fun k => l.length - k) (0) ⟨rfl, rfl, rfl, trivial⟩ (by repeat constructor) ⟨by omega, by simp⟩ ?_
     intro k ⟨hk, hz⟩
     refine go_seq ?_
     refine go_seq ?_
     refine go_region rfl ?_
     refine go_pure0 Tk rfl rfl rfl ?_
     refine go_pure0 Tk rfl rfl rfl ?_
     refine go_pure0 Tk rfl rfl rfl ?_
     refine go_pure0 Tk rfl rfl rfl ?_
     refine go_nil ?_
     refine go_env [(0, _), (1, _), (5, _), (29, _)] ⟨rfl, rfl, rfl, rfl, trivial⟩ ?_
     refine go_condD rfl ?_ ?_
     ·intro hq1
      refine go_skip ?_
      refine go_seq ?_
      refine go_block ?_
      refine go_seq ?_
      refine go_seq ?_
      refine go_elem_cl (xs := l) (by repeat constructor) (k) (List.getElem?_eq_getElem (by omega)) (fun b0 o0 A0 c0 B0 d0 hA => ?_); cases hA
      refine go_len (xs := l[k].b) (by repeat constructor) (fun l2 m2 => ?_)
      refine go_region rfl ?_
      refine go_pure0 Tk rfl rfl rfl ?_
      refine go_pure0 Tk rfl rfl rfl ?_
      refine go_val0 rfl (idx_val Tk rfl rfl rfl rfl rfl (by omega)) rfl ?_
      refine go_pure0 Tk rfl rfl rfl ?_
      refine go_val0 rfl (ldv Tk rfl rfl rfl) rfl ?_
      refine go_pure0 Tk rfl rfl rfl ?_
      refine go_pure0 Tk rfl rfl rfl ?_
      refine go_pure0 Tk rfl rfl rfl ?_
      refine go_known 39 rfl ?_ ?_
      ·intro g5
       (try simp only [decide_eq_true_eq, decide_eq_false_iff_not, Bool.not_eq_true', Bool.not_eq_false', Bool.not_eq_eq_eq_not, Bool.not_true, Bool.not_false, Int.not_lt, Int.not_le, beq_iff_eq, beq_eq_false_iff_ne, ne_eq] at g5)
       refine go_skip0 rfl rfl ?_
       refine go_skip0 rfl rfl ?_
       refine go_skip0 rfl rfl ?_
       refine go_skip0 rfl rfl ?_
       refine go_skip0 rfl rfl ?_
       refine go_skip0 rfl rfl ?_
       refine go_skip0 rfl rfl ?_
       refine go_skip0 rfl rfl ?_
       refine go_pure0 Tk rfl rfl rfl ?_
       refine go_nil ?_
       refine go_env [(0, _), (1, _), (5, _), (40, _), (41, _), (42, _), (43, _), (44, _), (45, _), (46, _), (47, _), (48, _)] ⟨rfl, rfl, rfl, rfl, rfl, rfl, rfl, rfl, rfl, rfl, rfl, rfl, trivial⟩ ?_
       refine go_cond_t rfl ?_
       refine go_seq ?_
       refine go_region rfl ?_
       refine go_pure0 Tk rfl rfl rfl ?_
       refine go_nil ?_
       refine go_env [(4, _)] ⟨rfl, trivial⟩ ?_
       refine go_ret ⟨rfl, rfl⟩ _ _ (res1 (by rfl) (.tmp rfl)) ⟨by first | rw [few11_no (fun h => by have := h.1; omega)] | rw [few11_no (fun h => by have := h.2.1 l[k] (List.getElem_mem _); have h1 := this.1; omega)] | rw [few11_no (fun h => by have := h.2.1 l[k] (List.getElem_mem _); have h1 := this.2.1; omega)] | rw [few11_no (fun h => by have := (h.2.1 l[k] (List.getElem_mem _)).2.2 l[k].b[m] (List.getElem_mem _); omega)] | rw [few11_no (fun h => by have := h.2.2 F[j] (List.getElem_mem _); omega)] | rw [few11_yes ⟨⟨by omega, by omega, by omega⟩, hz, by rw [List.take_of_length_le (by omega)] at hx; exact hx⟩], rfl, rfl⟩ (by repeat constructor) (by repeat constructor)
      ·intro g5
       (try simp only [decide_eq_true_eq, decide_eq_false_iff_not, Bool.not_eq_true', Bool.not_eq_false', Bool.not_eq_eq_eq_not, Bool.not_true, Bool.not_false, Int.not_lt, Int.not_le, beq_iff_eq, beq_eq_false_iff_ne, ne_eq] at g5)
       refine go_pure0 Tk rfl rfl rfl ?_
       refine go_pure0 Tk rfl rfl rfl ?_
       refine go_val0 rfl (idx_val Tk rfl rfl rfl rfl rfl (by omega)) rfl ?_
       refine go_pure0 Tk rfl rfl rfl ?_
       refine go_pure0 Tk rfl rfl rfl ?_
       refine go_val0 rfl (ldv Tk rfl rfl rfl) rfl ?_
       refine go_pure0 Tk rfl rfl rfl ?_
       refine go_pure0 Tk rfl rfl rfl ?_
       refine go_pure0 Tk rfl rfl rfl ?_
       refine go_nil ?_
       refine go_env [(0, _), (1, _), (5, _), (40, _), (41, _), (42, _), (43, _), (44, _), (45, _), (46, _), (47, _), (48, _)] ⟨rfl, rfl, rfl, rfl, rfl, rfl, rfl, rfl, rfl, rfl, rfl, rfl, trivial⟩ ?_
       refine go_cond rfl ?_ ?_
       ·intro g6
        (try simp only [decide_eq_true_eq, decide_eq_false_iff_not, Bool.not_eq_true', Bool.not_eq_false', Bool.not_eq_eq_eq_not, Bool.not_true, Bool.not_false, Int.not_lt, Int.not_le, beq_iff_eq, beq_eq_false_iff_ne, ne_eq] at g6)
        refine go_seq ?_
        refine go_region rfl ?_
        refine go_pure0 Tk rfl rfl rfl ?_
        refine go_nil ?_
        refine go_env [(4, _)] ⟨rfl, trivial⟩ ?_
        refine go_ret ⟨rfl, rfl⟩ _ _ (res1 (by rfl) (.tmp rfl)) ⟨by first | rw [few11_no (fun h => by have := h.1; omega)] | rw [few11_no (fun h => by have := h.2.1 l[k] (List.getElem_mem _); have h1 := this.1; omega)] | rw [few11_no (fun h => by have := h.2.1 l[k] (List.getElem_mem _); have h1 := this.2.1; omega)] | rw [few11_no (fun h => by have := (h.2.1 l[k] (List.getElem_mem _)).2.2 l[k].b[m] (List.getElem_mem _); omega)] | rw [few11_no (fun h => by have := h.2.2 F[j] (List.getElem_mem _); omega)] | rw [few11_yes ⟨⟨by omega, by omega, by omega⟩, hz, by rw [List.take_of_length_le (by omega)] at hx; exact hx⟩], rfl, rfl⟩ (by repeat constructor) (by repeat constructor)
       ·intro g6
        (try simp only [decide_eq_true_eq, decide_eq_false_iff_not, Bool.not_eq_true', Bool.not_eq_false', Bool.not_eq_eq_eq_not, Bool.not_true, Bool.not_false, Int.not_lt, Int.not_le, beq_iff_eq, beq_eq_false_iff_ne, ne_eq] at g6)
        refine go_skip ?_
        refine go_seq ?_
        refine go_region rfl ?_
        refine go_pure0 Tk rfl rfl rfl ?_
        refine go_nil ?_
        refine go_env [(0, _), (1, _), (5, _), (6, _), (40, _), (41, _), (42, _), (43, _), (44, _), (45, _), (46, _), (47, _)] ⟨rfl, rfl, rfl, rfl, rfl, rfl, rfl, rfl, rfl, rfl, rfl, rfl, trivial⟩ ?_
        refine go_block ?_
        refine go_loop' (X := Nat) (fun m => [(6, .int .i64 (m : Int))]) [(0, _), (1, _), (5, _), (40, _), (41, _), (42, _), (43, _), (44, _), (45, _), (46, _), (47, _)] (fun _ => []) (fun m => m ≤ l[k].b.length ∧ ∀ x ∈ l[k].b.take m, x.a.a.length ≤ 30) (fun m => l[k].b.length - m) (0) ⟨rfl, rfl, rfl, rfl, rfl, rfl, rfl, rfl, rfl, rfl, rfl, rfl, trivial⟩ (by repeat constructor) ⟨by omega, by simp⟩ ?_
        intro m ⟨hm, hy⟩
        refine go_seq ?_
        refine go_seq ?_
        refine go_region rfl ?_
        refine go_pure0 Tk rfl rfl rfl ?_
        refine go_pure0 Tk rfl rfl rfl ?_
        refine go_pure0 Tk rfl rfl rfl ?_
        refine go_val0 rfl (idx_val Tk rfl rfl rfl rfl rfl (by omega)) rfl ?_
        refine go_pure0 Tk rfl rfl rfl ?_
        refine go_val0 rfl (ldv Tk rfl rfl rfl) rfl ?_
        refine go_pure0 Tk rfl rfl rfl ?_
        refine go_pure0 Tk rfl rfl rfl ?_
        refine go_nil ?_
        refine go_env [(0, _), (1, _), (5, _), (6, _), (40, _), (41, _), (42, _), (43, _), (44, _), (45, _), (46, _), (47, _), (56, _)] ⟨rfl, rfl, rfl, rfl, rfl, rfl, rfl, rfl, rfl, rfl, rfl, rfl, rfl, trivial⟩ ?_
        refine go_condD rfl ?_ ?_
        ·intro hq2
         refine go_skip ?_
         refine go_seq ?_
         refine go_block ?_
         refine go_seq ?_
         refine go_elem_li (xs := l[k].b) (by repeat constructor) (m) (List.getElem?_eq_getElem (by omega)) (fun b1 o1 A1 c1 hA => ?_); cases hA
         refine go_region rfl ?_
         refine go_pure0 Tk rfl rfl rfl ?_
         refine go_pure0 Tk rfl rfl rfl ?_
         refine go_val0 rfl (idx_val Tk rfl rfl rfl rfl rfl (by omega)) rfl ?_
         refine go_pure0 Tk rfl rfl rfl ?_
         refine go_val0 rfl (ldv Tk rfl rfl rfl) rfl ?_
         refine go_pure0 Tk rfl rfl rfl ?_
         refine go_val0 rfl (idx_val Tk rfl rfl rfl rfl rfl (by omega)) rfl ?_
         refine go_pure0 Tk rfl rfl rfl ?_
         refine go_pure0 Tk rfl rfl rfl ?_
         refine go_val0 rfl (ldv Tk rfl rfl rfl) rfl ?_
         refine go_pure0 Tk rfl rfl rfl ?_
         refine go_pure0 Tk rfl rfl rfl ?_
         refine go_nil ?_
         refine go_env [(0, _), (1, _), (5, _), (6, _), (40, _), (41, _), (42, _), (43, _), (44, _), (45, _), (46, _), (47, _), (70, _)] ⟨rfl, rfl, rfl, rfl, rfl, rfl, rfl, rfl, rfl, rfl, rfl, rfl, rfl, trivial⟩ ?_
         refine go_condD rfl ?_ ?_
         ·intro g7
          refine go_seq ?_
          refine go_region rfl ?_
          refine go_pure0 Tk rfl rfl rfl ?_
          refine go_nil ?_
          refine go_env [(4, _)] ⟨rfl, trivial⟩ ?_
          refine go_ret ⟨rfl, rfl⟩ _ _ (res1 (by rfl) (.tmp rfl)) ⟨by first | rw [few11_no (fun h => by have := h.1; omega)] | rw [few11_no (fun h => by have := h.2.1 l[k] (List.getElem_mem _); have h1 := this.1; omega)] | rw [few11_no (fun h => by have := h.2.1 l[k] (List.getElem_mem _); have h1 := this.2.1; omega)] | rw [few11_no (fun h => by have := (h.2.1 l[k] (List.getElem_mem _)).2.2 l[k].b[m] (List.getElem_mem _); omega)] | rw [few11_no (fun h => by have := h.2.2 F[j] (List.getElem_mem _); omega)] | rw [few11_yes ⟨⟨by omega, by omega, by omega⟩, hz, by rw [List.take_of_length_le (by omega)] at hx; exact hx⟩], rfl, rfl⟩ (by repeat constructor) (by repeat constructor)
         ·intro g7
          refine go_skip ?_
          refine go_blk ?_
          refine go_region rfl ?_
          refine go_pure0 Tk rfl rfl rfl ?_
          refine go_pure0 Tk rfl rfl rfl ?_
          refine go_pure0 Tk rfl rfl rfl ?_
          refine go_nil ?_
          refine go_i64 6 rfl (by omega) (by omega) ?_
          refine go_back (m + 1) ⟨rfl, rfl, rfl, rfl, rfl, rfl, rfl, rfl, rfl, rfl, rfl, rfl, trivial⟩ (by repeat constructor) (by repeat constructor) (⟨by omega, mem_take_next (by omega) hy (by omega)⟩) (by omega)
        ·intro hq2
         refine go_exit rfl ?_
         refine go_blk ?_
         refine go_region rfl ?_
         refine go_pure0 Tk rfl rfl rfl ?_
         refine go_pure0 Tk rfl rfl rfl ?_
         refine go_pure0 Tk rfl rfl rfl ?_
         refine go_nil ?_
         refine go_i64 5 rfl (by omega) (by omega) ?_
         refine go_back (k + 1) ⟨rfl, rfl, rfl, trivial⟩ (by repeat constructor) (by repeat constructor) (⟨by omega, mem_take_next (by omega) hz ⟨by omega, by omega, by rw [List.take_of_length_le (by omega)] at hy; exact hy⟩⟩) (by omega)
     ·intro hq1
      refine go_exit rfl ?_
      refine go_seq ?_
      refine go_seq ?_
      rw [List.take_of_length_le (by omega)] at hz
      refine go_region rfl ?_
      refine go_pure0 Tk rfl rfl rfl ?_
      refine go_nil ?_
      refine go_env [(1, _), (7, _)] ⟨rfl, rfl, trivial⟩ ?_
      refine go_block ?_
      refine go_loop' (X := Nat) (fun j => [(7, .int .i64 (j : Int))]) [(1, _)] (fun _ => []) (fun j => j ≤ F.length ∧ ∀ x ∈ F.take j, x.a.length ≤ 30) (fun j => F.length - j) (0) ⟨rfl, rfl, trivial⟩ (by repeat constructor) ⟨by omega, by simp⟩ ?_
      intro j ⟨hj, hx⟩
      refine go_seq ?_
      refine go_seq ?_
      refine go_region rfl ?_
      refine go_pure0 Tk rfl rfl rfl ?_
      refine go_pure0 Tk rfl rfl rfl ?_
      refine go_pure0 Tk rfl rfl rfl ?_
      refine go_pure0 Tk rfl rfl rfl ?_
      refine go_nil ?_
      refine go_env [(1, _), (7, _), (74, _)] ⟨rfl, rfl, rfl, trivial⟩ ?_
      refine go_condD rfl ?_ ?_
      ·intro hq3
       refine go_skip ?_
       refine go_seq ?_
       refine go_block ?_
       refine go_seq ?_
       refine go_elem_fa (xs := F) (by repeat constructor) (j) (List.getElem?_eq_getElem (by omega)) (fun b3 o3 A3 c3 hA => ?_); cases hA
       refine go_region rfl ?_
       refine go_pure0 Tk rfl rfl rfl ?_
       refine go_pure0 Tk rfl rfl rfl ?_
       refine go_val0 rfl (idx_val Tk rfl rfl rfl rfl rfl (by omega)) rfl ?_
       refine go_pure0 Tk rfl rfl rfl ?_
       refine go_val0 rfl (ldv Tk rfl rfl rfl) rfl ?_
       refine go_pure0 Tk rfl rfl rfl ?_
       refine go_pure0 Tk rfl rfl rfl ?_
       refine go_nil ?_
       refine go_env [(1, _), (7, _), (83, _)] ⟨rfl, rfl, rfl, trivial⟩ ?_
       refine go_condD rfl ?_ ?_
       ·intro g8
        refine go_seq ?_
        refine go_region rfl ?_
        refine go_pure0 Tk rfl rfl rfl ?_
        refine go_nil ?_
        refine go_env [(4, _)] ⟨rfl, trivial⟩ ?_
        refine go_ret ⟨rfl, rfl⟩ _ _ (res1 (by rfl) (.tmp rfl)) ⟨by first | rw [few11_no (fun h => by have := h.1; omega)] | rw [few11_no (fun h => by have := h.2.1 l[k] (List.getElem_mem _); have h1 := this.1; omega)] | rw [few11_no (fun h => by have := h.2.1 l[k] (List.getElem_mem _); have h1 := this.2.1; omega)] | rw [few11_no (fun h => by have := (h.2.1 l[k] (List.getElem_mem _)).2.2 l[k].b[m] (List.getElem_mem _); omega)] | rw [few11_no (fun h => by have := h.2.2 F[j] (List.getElem_mem _); omega)] | rw [few11_yes ⟨⟨by omega, by omega, by omega⟩, hz, by rw [List.take_of_length_le (by omega)] at hx; exact hx⟩], rfl, rfl⟩ (by repeat constructor) (by repeat constructor)
       ·intro g8
        refine go_skip ?_
        refine go_blk ?_
        refine go_region rfl ?_
        refine go_pure0 Tk rfl rfl rfl ?_
        refine go_pure0 Tk rfl rfl rfl ?_
        refine go_pure0 Tk rfl rfl rfl ?_
        refine go_nil ?_
        refine go_i64 7 rfl (by omega) (by omega) ?_
        refine go_back (j + 1) ⟨rfl, rfl, trivial⟩ (by repeat constructor) (by repeat constructor) (⟨by omega, mem_take_next (by omega) hx (by omega)⟩) (by omega)
      ·intro hq3
       refine go_exit rfl ?_
       refine go_seq ?_
       refine go_region rfl ?_
       refine go_pure0 Tk rfl rfl rfl ?_
       refine go_nil ?_
       refine go_env [(4, _)] ⟨rfl, trivial⟩ ?_
       refine go_ret ⟨rfl, rfl⟩ _ _ (res1 (by rfl) (.tmp rfl)) ⟨by first | rw [few11_no (fun h => by have := h.1; omega)] | rw [few11_no (fun h => by have := h.2.1 l[k] (List.getElem_mem _); have h1 := this.1; omega)] | rw [few11_no (fun h => by have := h.2.1 l[k] (List.getElem_mem _); have h1 := this.2.1; omega)] | rw [few11_no (fun h => by have := (h.2.1 l[k] (List.getElem_mem _)).2.2 l[k].b[m] (List.getElem_mem _); omega)] | rw [few11_no (fun h => by have := h.2.2 F[j] (List.getElem_mem _); omega)] | rw [few11_yes ⟨⟨by omega, by omega, by omega⟩, hz, by rw [List.take_of_length_le (by omega)] at hx; exact hx⟩], rfl, rfl⟩ (by repeat constructor) (by repeat constructor)
 ·intro g1
  (try simp only [decide_eq_true_eq, decide_eq_false_iff_not, Bool.not_eq_true', Bool.not_eq_false', Bool.not_eq_eq_eq_not, Bool.not_true, Bool.not_false, Int.not_lt, Int.not_le, beq_iff_eq, beq_eq_false_iff_ne, ne_eq] at g1)
  refine go_skip0 rfl rfl ?_
  refine go_skip0 rfl rfl ?_
  refine go_skip0 rfl rfl ?_
  refine go_pure0 Tk rfl rfl rfl ?_
  refine go_pure0 Tk rfl rfl rfl ?_
  refine go_pure0 Tk rfl rfl rfl ?_
  refine go_pure0 Tk rfl rfl rfl ?_
  refine go_pure0 Tk rfl rfl rfl ?_
  refine go_pure0 Tk rfl rfl rfl ?_
  refine go_pure0 Tk rfl rfl rfl ?_
  refine go_known 21 rfl ?_ ?_
  ·intro g3
   (try simp only [decide_eq_true_eq, decide_eq_false_iff_not, Bool.not_eq_true', Bool.not_eq_false', Bool.not_eq_eq_eq_not, Bool.not_true, Bool.not_false, Int.not_lt, Int.not_le, beq_iff_eq, beq_eq_false_iff_ne, ne_eq] at g3)
   refine go_skip0 rfl rfl ?_
   refine go_skip0 rfl rfl ?_
   refine go_skip0 rfl rfl ?_
   refine go_pure0 Tk rfl rfl rfl ?_
   refine go_nil ?_
   refine go_env [(0, _), (1, _), (25, _)] ⟨rfl, rfl, rfl, trivial⟩ ?_
   refine go_cond_t rfl ?_
   refine go_seq ?_
   refine go_region rfl ?_
   refine go_pure0 Tk rfl rfl rfl ?_
   refine go_nil ?_
   refine go_env [(4, _)] ⟨rfl, trivial⟩ ?_
   refine go_ret ⟨rfl, rfl⟩ _ _ (res1 (by rfl) (.tmp rfl)) ⟨by first | rw [few11_no (fun h => by have := h.1; omega)] | rw [few11_no (fun h => by have := h.2.1 l[k] (List.getElem_mem _); have h1 := this.1; omega)] | rw [few11_no (fun h => by have := h.2.1 l[k] (List.getElem_mem _); have h1 := this.2.1; omega)] | rw [few11_no (fun h => by have := (h.2.1 l[k] (List.getElem_mem _)).2.2 l[k].b[m] (List.getElem_mem _); omega)] | rw [few11_no (fun h => by have := h.2.2 F[j] (List.getElem_mem _); omega)] | rw [few11_yes ⟨⟨by omega, by omega, by omega⟩, hz, by rw [List.take_of_length_le (by omega)] at hx; exact hx⟩], rfl, rfl⟩ (by repeat constructor) (by repeat constructor)
  ·intro g3
   (try simp only [decide_eq_true_eq, decide_eq_false_iff_not, Bool.not_eq_true', Bool.not_eq_false', Bool.not_eq_eq_eq_not, Bool.not_true, Bool.not_false, Int.not_lt, Int.not_le, beq_iff_eq, beq_eq_false_iff_ne, ne_eq] at g3)
   refine go_pure0 Tk rfl rfl rfl ?_
   refine go_pure0 Tk rfl rfl rfl ?_
   refine go_pure0 Tk rfl rfl rfl ?_
   refine go_pure0 Tk rfl rfl rfl ?_
   refine go_nil ?_
   refine go_env [(0, _), (1, _), (25, _)] ⟨rfl, rfl, rfl, trivial⟩ ?_
   refine go_cond rfl ?_ ?_
   ·intro g4
    (try simp only [decide_eq_true_eq, decide_eq_false_iff_not, Bool.not_eq_true', Bool.not_eq_false', Bool.not_eq_eq_eq_not, Bool.not_true, Bool.not_false, Int.not_lt, Int.not_le, beq_iff_eq, beq_eq_false_iff_ne, ne_eq] at g4)
    refine go_seq ?_
    refine go_region rfl ?_
    refine go_pure0 Tk rfl rfl rfl ?_
    refine go_nil ?_
    refine go_env [(4, _)] ⟨rfl, trivial⟩ ?_
    refine go_ret ⟨rfl, rfl⟩ _ _ (res1 (by rfl) (.tmp rfl)) ⟨by first | rw [few11_no (fun h => by have := h.1; omega)] | rw [few11_no (fun h => by have := h.2.1 l[k] (List.getElem_mem _); have h1 := this.1; omega)] | rw [few11_no (fun h => by have := h.2.1 l[k] (List.getElem_mem _); have h1 := this.2.1; omega)] | rw [few11_no (fun h => by have := (h.2.1 l[k] (List.getElem_mem _)).2.2 l[k].b[m] (List.getElem_mem _); omega)] | rw [few11_no (fun h => by have := h.2.2 F[j] (List.getElem_mem _); omega)] | rw [few11_yes ⟨⟨by omega, by omega, by omega⟩, hz, by rw [List.take_of_length_le (by omega)] at hx; exact hx⟩], rfl, rfl⟩ (by repeat constructor) (by repeat constructor)
   ·intro g4
    (try simp only [decide_eq_true_eq, decide_eq_false_iff_not, Bool.not_eq_true', Bool.not_eq_false', Bool.not_eq_eq_eq_not, Bool.not_true, Bool.not_false, Int.not_lt, Int.not_le, beq_iff_eq, beq_eq_false_iff_ne, ne_eq] at g4)
    refine go_skip ?_
    refine go_seq ?_
    refine go_seq ?_
    refine go_region rfl ?_
    refine go_pure0 Tk rfl rfl rfl ?_
    refine go_nil ?_
    refine go_env [(0, _), (1, _), (5, _)] ⟨rfl, rfl, rfl, trivial⟩ ?_
    refine go_block ?_
    refine go_loop' (X := Nat) (fun k => [(5, .int .i64 (k : Int))]) [(0, _), (1, _)] (fun _ => []) (fun k => k ≤ l.length ∧ ∀ x ∈ l.take k, CLok x) (fun k => l.length - k) (0) ⟨rfl, rfl, rfl, trivial⟩ (by repeat constructor) ⟨by omega, by simp⟩ ?_
    intro k ⟨hk, hz⟩
    refine go_seq ?_
    refine go_seq ?_
    refine go_region rfl ?_
    refine go_pure0 Tk rfl rfl rfl ?_
    refine go_pure0 Tk rfl rfl rfl ?_
    refine go_pure0 Tk rfl rfl rfl ?_
    refine go_pure0 Tk rfl rfl rfl ?_
    refine go_nil ?_
    refine go_env [(0, _), (1, _), (5, _), (29, _)] ⟨rfl, rfl, rfl, rfl, trivial⟩ ?_
    refine go_condD rfl ?_ ?_
    ·intro hq4
     refine go_skip ?_
     refine go_seq ?_
     refine go_block ?_
     refine go_seq ?_
     refine go_seq ?_
     refine go_elem_cl (xs := l) (by repeat constructor) (k) (List.getElem?_eq_getElem (by omega)) (fun b0 o0 A0 c0 B0 d0 hA => ?_); cases hA
     refine go_len (xs := l[k].b) (by repeat constructor) (fun l2 m2 => ?_)
     refine go_region rfl ?_
     refine go_pure0 Tk rfl rfl rfl ?_
     refine go_pure0 Tk rfl rfl rfl ?_
     refine go_val0 rfl (idx_val Tk rfl rfl rfl rfl rfl (by omega)) rfl ?_
     refine go_pure0 Tk rfl rfl rfl ?_
     refine go_val0 rfl (ldv Tk rfl rfl rfl) rfl ?_
     refine go_pure0 Tk rfl rfl rfl ?_
     refine go_pure0 Tk rfl rfl rfl ?_
     refine go_pure0 Tk rfl rfl rfl ?_
     refine go_known 39 rfl ?_ ?_
     ·intro g5
      (try simp only [decide_eq_true_eq, decide_eq_false_iff_not, Bool.not_eq_true', Bool.not_eq_false', Bool.not_eq_eq_eq_not, Bool.not_true, Bool.not_false, Int.not_lt, Int.not_le, beq_iff_eq, beq_eq_false_iff_ne, ne_eq] at g5)
      refine go_skip0 rfl rfl ?_
      refine go_skip0 rfl rfl ?_
      refine go_skip0 rfl rfl ?_
      refine go_skip0 rfl rfl ?_
      refine go_skip0 rfl rfl ?_
      refine go_skip0 rfl rfl ?_
      refine go_skip0 rfl rfl ?_
      refine go_skip0 rfl rfl ?_
      refine go_pure0 Tk rfl rfl rfl ?_
      refine go_nil ?_
      refine go_env [(0, _), (1, _), (5, _), (40, _), (41, _), (42, _), (43, _), (44, _), (45, _), (46, _), (47, _), (48, _)] ⟨rfl, rfl, rfl, rfl, rfl, rfl, rfl, rfl, rfl, rfl, rfl, rfl, trivial⟩ ?_
      refine go_cond_t rfl ?_
      refine go_seq ?_
      refine go_region rfl ?_
      refine go_pure0 Tk rfl rfl rfl ?_
      refine go_nil ?_
      refine go_env [(4, _)] ⟨rfl, trivial⟩ ?_
      refine go_ret ⟨rfl, rfl⟩ _ _ (res1 (by rfl) (.tmp rfl)) ⟨by first | rw [few11_no (fun h => by have := h.1; omega)] | rw [few11_no (fun h => by have := h.2.1 l[k] (List.getElem_mem _); have h1 := this.1; omega)] | rw [few11_no (fun h => by have := h.2.1 l[k] (List.getElem_mem _); have h1 := this.2.1; omega)] | rw [few11_no (fun h => by have := (h.2.1 l[k] (List.getElem_mem _)).2.2 l[k].b[m] (List.getElem_mem _); omega)] | rw [few11_no (fun h => by have := h.2.2 F[j] (List.getElem_mem _); omega)] | rw [few11_yes ⟨⟨by omega, by omega, by omega⟩, hz, by rw [List.take_of_length_le (by omega)] at hx; exact hx⟩], rfl, rfl⟩ (by repeat constructor) (by repeat constructor)
     ·intro g5
      (try simp only [decide_eq_true_eq, decide_eq_false_iff_not, Bool.not_eq_true', Bool.not_eq_false', Bool.not_eq_eq_eq_not, Bool.not_true, Bool.not_false, Int.not_lt, Int.not_le, beq_iff_eq, beq_eq_false_iff_ne, ne_eq] at g5)
      refine go_pure0 Tk rfl rfl rfl ?_
      refine go_pure0 Tk rfl rfl rfl ?_
      refine go_val0 rfl (idx_val Tk rfl rfl rfl rfl rfl (by omega)) rfl ?_
      refine go_pure0 Tk rfl rfl rfl ?_
      refine go_pure0 Tk rfl rfl rfl ?_
      refine go_val0 rfl (ldv Tk rfl rfl rfl) rfl ?_
      refine go_pure0 Tk rfl rfl rfl ?_
      refine go_pure0 Tk rfl rfl rfl ?_
      refine go_pure0 Tk rfl rfl rfl ?_
      refine go_nil ?_
      refine go_env [(0, _), (1, _), (5, _), (40, _), (41, _), (42, _), (43, _), (44, _), (45, _), (46, _), (47, _), (48, _)] ⟨rfl, rfl, rfl, rfl, rfl, rfl, rfl, rfl, rfl, rfl, rfl, rfl, trivial⟩ ?_
      refine go_cond rfl ?_ ?_
      ·intro g6
       (try simp only [decide_eq_true_eq, decide_eq_false_iff_not, Bool.not_eq_true', Bool.not_eq_false', Bool.not_eq_eq_eq_not, Bool.not_true, Bool.not_false, Int.not_lt, Int.not_le, beq_iff_eq, beq_eq_false_iff_ne, ne_eq] at g6)
       refine go_seq ?_
       refine go_region rfl ?_
       refine go_pure0 Tk rfl rfl rfl ?_
       refine go_nil ?_
       refine go_env [(4, _)] ⟨rfl, trivial⟩ ?_
       refine go_ret ⟨rfl, rfl⟩ _ _ (res1 (by rfl) (.tmp rfl)) ⟨by first | rw [few11_no (fun h => by have := h.1; omega)] | rw [few11_no (fun h => by have := h.2.1 l[k] (List.getElem_mem _); have h1 := this.1; omega)] | rw [few11_no (fun h => by have := h.2.1 l[k] (List.getElem_mem _); have h1 := this.2.1; omega)] | rw [few11_no (fun h => by have := (h.2.1 l[k] (List.getElem_mem _)).2.2 l[k].b[m] (List.getElem_mem _); omega)] | rw [few11_no (fun h => by have := h.2.2 F[j] (List.getElem_mem _); omega)] | rw [few11_yes ⟨⟨by omega, by omega, by omega⟩, hz, by rw [List.take_of_length_le (by omega)] at hx; exact hx⟩], rfl, rfl⟩ (by repeat constructor) (by repeat constructor)
      ·intro g6
       (try simp only [decide_eq_true_eq, decide_eq_false_iff_not, Bool.not_eq_true', Bool.not_eq_false', Bool.not_eq_eq_eq_not, Bool.not_true, Bool.not_false, Int.not_lt, Int.not_le, beq_iff_eq, beq_eq_false_iff_ne, ne_eq] at g6)
       refine go_skip ?_
       refine go_seq ?_
       refine go_region rfl ?_
       refine go_pure0 Tk rfl rfl rfl ?_
       refine go_nil ?_
       refine go_env [(0, _), (1, _), (5, _), (6, _), (40, _), (41, _), (42, _), (43, _), (44, _), (45, _), (46, _), (47, _)] ⟨rfl, rfl, rfl, rfl, rfl, rfl, rfl, rfl, rfl, rfl, rfl, rfl, trivial⟩ ?_
       refine go_block ?_
       refine go_loop' (X := Nat) (fun m => [(6, .int .i64 (m : Int))]) [(0, _), (1, _), (5, _), (40, _), (41, _), (42, _), (43, _), (44, _), (45, _), (46, _), (47, _)] (fun _ => []) (fun m => m ≤ l[k].b.length ∧ ∀ x ∈ l[k].b.take m, x.a.a.length ≤ 30) (fun m => l[k].b.length - m) (0) ⟨rfl, rfl, rfl, rfl, rfl, rfl, rfl, rfl, rfl, rfl, rfl, rfl, trivial⟩ (by repeat constructor) ⟨by omega, by simp⟩ ?_
       intro m ⟨hm, hy⟩
       refine go_seq ?_
       refine go_seq ?_
       refine go_region rfl ?_
       refine go_pure0 Tk rfl rfl rfl ?_
       refine go_pure0 Tk rfl rfl rfl ?_
       refine go_pure0 Tk rfl rfl rfl ?_
       refine go_val0 rfl (idx_val Tk rfl rfl rfl rfl rfl (by omega)) rfl ?_
       refine go_pure0 Tk rfl rfl rfl ?_
       refine go_val0 rfl (ldv Tk rfl rfl rfl) rfl ?_
       refine go_pure0 Tk rfl rfl rfl ?_
       refine go_pure0 Tk rfl rfl rfl ?_
       refine go_nil ?_
       refine go_env [(0, _), (1, _), (5, _), (6, _), (40, _), (41, _), (42, _), (43, _), (44, _), (45, _), (46, _), (47, _), (56, _)] ⟨rfl, rfl, rfl, rfl, rfl, rfl, rfl, rfl, rfl, rfl, rfl, rfl, rfl, trivial⟩ ?_
       refine go_condD rfl ?_ ?_
       ·intro hq5
        refine go_skip ?_
        refine go_seq ?_
        refine go_block ?_
        refine go_seq ?_
        refine go_elem_li (xs := l[k].b) (by repeat constructor) (m) (List.getElem?_eq_getElem (by omega)) (fun b1 o1 A1 c1 hA => ?_); cases hA
        refine go_region rfl ?_
        refine go_pure0 Tk rfl rfl rfl ?_
        refine go_pure0 Tk rfl rfl rfl ?_
        refine go_val0 rfl (idx_val Tk rfl rfl rfl rfl rfl (by omega)) rfl ?_
        refine go_pure0 Tk rfl rfl rfl ?_
        refine go_val0 rfl (ldv Tk rfl rfl rfl) rfl ?_
        refine go_pure0 Tk rfl rfl rfl ?_
        refine go_val0 rfl (idx_val Tk rfl rfl rfl rfl rfl (by omega)) rfl ?_
        refine go_pure0 Tk rfl rfl rfl ?_
        refine go_pure0 Tk rfl rfl rfl ?_
        refine go_val0 rfl (ldv Tk rfl rfl rfl) rfl ?_
        refine go_pure0 Tk rfl rfl rfl ?_
        refine go_pure0 Tk rfl rfl rfl ?_
        refine go_nil ?_
        refine go_env [(0, _), (1, _), (5, _), (6, _), (40, _), (41, _), (42, _), (43, _), (44, _), (45, _), (46, _), (47, _), (70, _)] ⟨rfl, rfl, rfl, rfl, rfl, rfl, rfl, rfl, rfl, rfl, rfl, rfl, rfl, trivial⟩ ?_
        refine go_condD rfl ?_ ?_
        ·intro g7
         refine go_seq ?_
         refine go_region rfl ?_
         refine go_pure0 Tk rfl rfl rfl ?_
         refine go_nil ?_
         refine go_env [(4, _)] ⟨rfl, trivial⟩ ?_
         refine go_ret ⟨rfl, rfl⟩ _ _ (res1 (by rfl) (.tmp rfl)) ⟨by first | rw [few11_no (fun h => by have := h.1; omega)] | rw [few11_no (fun h => by have := h.2.1 l[k] (List.getElem_mem _); have h1 := this.1; omega)] | rw [few11_no (fun h => by have := h.2.1 l[k] (List.getElem_mem _); have h1 := this.2.1; omega)] | rw [few11_no (fun h => by have := (h.2.1 l[k] (List.getElem_mem _)).2.2 l[k].b[m] (List.getElem_mem _); omega)] | rw [few11_no (fun h => by have := h.2.2 F[j] (List.getElem_mem _); omega)] | rw [few11_yes ⟨⟨by omega, by omega, by omega⟩, hz, by rw [List.take_of_length_le (by omega)] at hx; exact hx⟩], rfl, rfl⟩ (by repeat constructor) (by repeat constructor)
        ·intro g7
         refine go_skip ?_
         refine go_blk ?_
         refine go_region rfl ?_
         refine go_pure0 Tk rfl rfl rfl ?_
         refine go_pure0 Tk rfl rfl rfl ?_
         refine go_pure0 Tk rfl rfl rfl ?_
         refine go_nil ?_
         refine go_i64 6 rfl (by omega) (by omega) ?_
         refine go_back (m + 1) ⟨rfl, rfl, rfl, rfl, rfl, rfl, rfl, rfl, rfl, rfl, rfl, rfl, trivial⟩ (by repeat constructor) (by repeat constructor) (⟨by omega, mem_take_next (by omega) hy (by omega)⟩) (by omega)
       ·intro hq5
        refine go_exit rfl ?_
        refine go_blk ?_
        refine go_region rfl ?_
        refine go_pure0 Tk rfl rfl rfl ?_
        refine go_pure0 Tk rfl rfl rfl ?_
        refine go_pure0 Tk rfl rfl rfl ?_
        refine go_nil ?_
        refine go_i64 5 rfl (by omega) (by omega) ?_
        refine go_back (k + 1) ⟨rfl, rfl, rfl, trivial⟩ (by repeat constructor) (by repeat constructor) (⟨by omega, mem_take_next (by omega) hz ⟨by omega, by omega, by rw [List.take_of_length_le (by omega)] at hy; exact hy⟩⟩) (by omega)
    ·intro hq4
     refine go_exit rfl ?_
     refine go_seq ?_
     refine go_seq ?_
     rw [List.take_of_length_le (by omega)] at hz
     refine go_region rfl ?_
     refine go_pure0 Tk rfl rfl rfl ?_
     refine go_nil ?_
     refine go_env [(1, _), (7, _)] ⟨rfl, rfl, trivial⟩ ?_
     refine go_block ?_
     refine go_loop' (X := Nat) (fun j => [(7, .int .i64 (j : Int))]) [(1, _)] (fun _ => []) (fun j => j ≤ F.length ∧ ∀ x ∈ F.take j, x.a.length ≤ 30) (fun j => F.length - j) (0) ⟨rfl, rfl, trivial⟩ (by repeat constructor) ⟨by omega, by simp⟩ ?_
     intro j ⟨hj, hx⟩
     refine go_seq ?_
     refine go_seq ?_
     refine go_region rfl ?_
     refine go_pure0 Tk rfl rfl rfl ?_
     refine go_pure0 Tk rfl rfl rfl ?_
     refine go_pure0 Tk rfl rfl rfl ?_
     refine go_pure0 Tk rfl rfl rfl ?_
     refine go_nil ?_
     refine go_env [(1, _), (7, _), (74, _)] ⟨rfl, rfl, rfl, trivial⟩ ?_
     refine go_condD rfl ?_ ?_
     ·intro hq6
      refine go_skip ?_
      refine go_seq ?_
      refine go_block ?_
      refine go_seq ?_
      refine go_elem_fa (xs := F) (by repeat constructor) (j) (List.getElem?_eq_getElem (by omega)) (fun b3 o3 A3 c3 hA => ?_); cases hA
      refine go_region rfl ?_
      refine go_pure0 Tk rfl rfl rfl ?_
      refine go_pure0 Tk rfl rfl rfl ?_
      refine go_val0 rfl (idx_val Tk rfl rfl rfl rfl rfl (by omega)) rfl ?_
      refine go_pure0 Tk rfl rfl rfl ?_
      refine go_val0 rfl (ldv Tk rfl rfl rfl) rfl ?_
      refine go_pure0 Tk rfl rfl rfl ?_
      refine go_pure0 Tk rfl rfl rfl ?_
      refine go_nil ?_
      refine go_env [(1, _), (7, _), (83, _)] ⟨rfl, rfl, rfl, trivial⟩ ?_
      refine go_condD rfl ?_ ?_
      ·intro g8
       refine go_seq ?_
       refine go_region rfl ?_
       refine go_pure0 Tk rfl rfl rfl ?_
       refine go_nil ?_
       refine go_env [(4, _)] ⟨rfl, trivial⟩ ?_
       refine go_ret ⟨rfl, rfl⟩ _ _ (res1 (by rfl) (.tmp rfl)) ⟨by first | rw [few11_no (fun h => by have := h.1; omega)] | rw [few11_no (fun h => by have := h.2.1 l[k] (List.getElem_mem _); have h1 := this.1; omega)] | rw [few11_no (fun h => by have := h.2.1 l[k] (List.getElem_mem _); have h1 := this.2.1; omega)] | rw [few11_no (fun h => by have := (h.2.1 l[k] (List.getElem_mem _)).2.2 l[k].b[m] (List.getElem_mem _); omega)] | rw [few11_no (fun h => by have := h.2.2 F[j] (List.getElem_mem _); omega)] | rw [few11_yes ⟨⟨by omega, by omega, by omega⟩, hz, by rw [List.take_of_length_le (by omega)] at hx; exact hx⟩], rfl, rfl⟩ (by repeat constructor) (by repeat constructor)
      ·intro g8
       refine go_skip ?_
       refine go_blk ?_
       refine go_region rfl ?_
       refine go_pure0 Tk rfl rfl rfl ?_
       refine go_pure0 Tk rfl rfl rfl ?_
       refine go_pure0 Tk rfl rfl rfl ?_
       refine go_nil ?_
       refine go_i64 7 rfl (by omega) (by omega) ?_
       refine go_back (j + 1) ⟨rfl, rfl, trivial⟩ (by repeat constructor) (by repeat constructor) (⟨by omega, mem_take_next (by omega) hx (by omega)⟩) (by omega)
     ·intro hq6
      refine go_exit rfl ?_
      refine go_seq ?_
      refine go_region rfl ?_
      refine go_pure0 Tk rfl rfl rfl ?_
      refine go_nil ?_
      refine go_env [(4, _)] ⟨rfl, trivial⟩ ?_
      refine go_ret ⟨rfl, rfl⟩ _ _ (res1 (by rfl) (.tmp rfl)) ⟨by first | rw [few11_no (fun h => by have := h.1; omega)] | rw [few11_no (fun h => by have := h.2.1 l[k] (List.getElem_mem _); have h1 := this.1; omega)] | rw [few11_no (fun h => by have := h.2.1 l[k] (List.getElem_mem _); have h1 := this.2.1; omega)] | rw [few11_no (fun h => by have := (h.2.1 l[k] (List.getElem_mem _)).2.2 l[k].b[m] (List.getElem_mem _); omega)] | rw [few11_no (fun h => by have := h.2.2 F[j] (List.getElem_mem _); omega)] | rw [few11_yes ⟨⟨by omega, by omega, by omega⟩, hz, by rw [List.take_of_length_le (by omega)] at hx; exact hx⟩], rfl, rfl⟩ (by repeat constructor) (by repeat constructor)

set_option maxHeartbeats 2000000 in
set_option maxRecDepth 20000 in
theorem law13Small (c : Cl) (CA : Option Addr) (cc : Nat) (CB : Option Addr) (cd : Nat) (n : Nat) :
    Spec Tryz.prog 22 #[.agg #[.int .u32 c.h.p, .slice CA c.h.a.length cc, .slice CB c.b.length cd], .int .i64 (n : Int)] [sl tTm CA cc c.h.a, sl tLi CB cd c.b] [] (fun v Ps' Os' => v = .bool (smallC c n) ∧ Ps' = [] ∧ Os' = []) := by
 refine spec_of (fn := Tryz.f22) (args := [.agg #[.int .u32 c.h.p, .slice CA c.h.a.length cc, .slice CB c.b.length cd], .int .i64 (n : Int)]) 43 Tryz.func22 rfl (by kernel_rfl) Tryz.ntmps22 (Nat.le_of_ble_eq_true rfl) (fun w0 hp0 hf0 => ?_)
 refine go_seq ?_
 refine go_region rfl ?_
 refine go_box Tk rfl rfl rfl rfl (by rfl) rfl rfl (fun h => nomatch h) ?_
 intro bC
 refine go_pure0 Tk rfl rfl rfl ?_
 refine go_nil ?_
 refine go_freeze_pt (b := bC) (by repeat constructor) ?_
 refine go_env [(1, _), (2, _)] ⟨rfl, rfl, trivial⟩ ?_
 refine go_seq ?_
 refine go_len (xs := c.b) (by repeat constructor) (fun l0 m0 => ?_)
 refine go_region rfl ?_
 refine go_pure0 Tk rfl rfl rfl ?_
 refine go_nil ?_
 refine go_env [(1, _), (2, _), (5, _)] ⟨rfl, rfl, rfl, trivial⟩ ?_
 refine go_seq ?_
 refine go_seq ?_
 refine go_region rfl ?_
 refine go_pure0 Tk rfl rfl rfl ?_
 refine go_nil ?_
 refine go_env [(1, _), (2, _), (5, _), (6, _)] ⟨rfl, rfl, rfl, rfl, trivial⟩ ?_
 refine go_block ?_
 refine go_loop' (X := Nat) (fun k => [(5, .int .i64 (pos (c.b.take k) : Int)), (6, .int .i64 (k : Int))]) [(1, _), (2, _)] (fun _ => []) (fun k => k ≤ c.b.length) (fun k => c.b.length - k) (0) ⟨rfl, rfl, rfl, rfl, trivial⟩ (by repeat constructor) (by omega) ?_
 intro k hk
 have hpk := pos_le c.b k
 refine go_seq ?_
 refine go_seq ?_
 refine go_region rfl ?_
 refine go_pure0 Tk rfl rfl rfl ?_
 refine go_pure0 Tk rfl rfl rfl ?_
 refine go_val0 rfl (ldv Tk rfl rfl rfl) rfl ?_
 refine go_pure0 Tk rfl rfl rfl ?_
 refine go_pure0 Tk rfl rfl rfl ?_
 refine go_nil ?_
 refine go_env [(1, _), (2, _), (5, _), (6, _), (11, _)] ⟨rfl, rfl, rfl, rfl, rfl, trivial⟩ ?_
 refine go_condD rfl ?_ ?_
 ·intro hq1
  refine go_skip ?_
  refine go_seq ?_
  refine go_block ?_
  refine go_seq ?_
  refine go_elem_li (xs := c.b) (by repeat constructor) (k) (List.getElem?_eq_getElem (by omega)) (fun b0 o0 A0 c0 hA => ?_); cases hA
  refine go_region rfl ?_
  refine go_pure0 Tk rfl rfl rfl ?_
  refine go_val0 rfl (ldv Tk rfl rfl rfl) rfl ?_
  refine go_pure0 Tk rfl rfl rfl ?_
  refine go_val0 rfl (idx_val Tk rfl rfl rfl rfl rfl (by omega)) rfl ?_
  refine go_pure0 Tk rfl rfl rfl ?_
  refine go_val0 rfl (ldv Tk rfl rfl rfl) rfl ?_
  refine go_pure0 Tk rfl rfl rfl ?_
  refine go_nil ?_
  refine go_env [(1, _), (2, _), (5, _), (6, _), (20, _)] ⟨rfl, rfl, rfl, rfl, rfl, trivial⟩ ?_
  refine go_cond rfl ?_ ?_
  ·intro g1
   (try simp only [decide_eq_true_eq, decide_eq_false_iff_not, Bool.not_eq_true', Bool.not_eq_false', Bool.not_eq_eq_eq_not, Bool.not_true, Bool.not_false, Int.not_lt, Int.not_le, beq_iff_eq, beq_eq_false_iff_ne, ne_eq] at g1)
   refine go_region rfl ?_
   refine go_pure0 Tk rfl rfl rfl ?_
   refine go_pure0 Tk rfl rfl rfl ?_
   refine go_pure0 Tk rfl rfl rfl ?_
   refine go_nil ?_
   refine go_env [(1, _), (2, _), (5, _), (6, _)] ⟨rfl, rfl, rfl, rfl, trivial⟩ ?_
   refine go_blk ?_
   refine go_region rfl ?_
   refine go_pure0 Tk rfl rfl rfl ?_
   refine go_pure0 Tk rfl rfl rfl ?_
   refine go_pure0 Tk rfl rfl rfl ?_
   refine go_nil ?_
   refine go_i64 6 rfl (by omega) (by omega) ?_
   refine go_re 5 (.int .i64 (pos (c.b.take (k + 1)) : Int)) (by show some (Value.int _ _) = _; rw [pos_yes (by omega) g1]; rw [wrap_i64 (by omega) (by omega)]; rfl) ?_
   refine go_back (k + 1) ⟨rfl, rfl, rfl, rfl, trivial⟩ (by repeat constructor) (by repeat constructor) (by omega) (by omega)
  ·intro g1
   (try simp only [decide_eq_true_eq, decide_eq_false_iff_not, Bool.not_eq_true', Bool.not_eq_false', Bool.not_eq_eq_eq_not, Bool.not_true, Bool.not_false, Int.not_lt, Int.not_le, beq_iff_eq, beq_eq_false_iff_ne, ne_eq] at g1)
   refine go_skip ?_
   refine go_blk ?_
   refine go_region rfl ?_
   refine go_pure0 Tk rfl rfl rfl ?_
   refine go_pure0 Tk rfl rfl rfl ?_
   refine go_pure0 Tk rfl rfl rfl ?_
   refine go_nil ?_
   refine go_i64 6 rfl (by omega) (by omega) ?_
   refine go_re 5 (.int .i64 (pos (c.b.take (k + 1)) : Int)) (by show some (Value.int _ _) = _; rw [pos_no (by omega) g1]; skip) ?_
   refine go_back (k + 1) ⟨rfl, rfl, rfl, rfl, trivial⟩ (by repeat constructor) (by repeat constructor) (by omega) (by omega)
 ·intro hq1
  refine go_exit rfl ?_
  refine go_seq ?_
  rw [List.take_of_length_le (show c.b.length ≤ k by omega)]
  have hpb := pos_le c.b c.b.length
  rw [List.take_of_length_le (Nat.le_refl _)] at hpb
  refine go_region rfl ?_
  refine go_pure0 Tk rfl rfl rfl ?_
  refine go_val0 rfl (ldv Tk rfl rfl rfl) rfl ?_
  refine go_pure0 Tk rfl rfl rfl ?_
  refine go_pure0 Tk rfl rfl rfl ?_
  refine go_pure0 Tk rfl rfl rfl ?_
  refine go_known 27 rfl ?_ ?_
  ·intro g2
   (try simp only [decide_eq_true_eq, decide_eq_false_iff_not, Bool.not_eq_true', Bool.not_eq_false', Bool.not_eq_eq_eq_not, Bool.not_true, Bool.not_false, Int.not_lt, Int.not_le, beq_iff_eq, beq_eq_false_iff_ne, ne_eq] at g2)
   refine go_pure0 Tk rfl rfl rfl ?_
   refine go_pure0 Tk rfl rfl rfl ?_
   refine go_pure0 Tk rfl rfl rfl ?_
   refine go_known 30 rfl ?_ ?_
   ·intro g3
    (try simp only [decide_eq_true_eq, decide_eq_false_iff_not, Bool.not_eq_true', Bool.not_eq_false', Bool.not_eq_eq_eq_not, Bool.not_true, Bool.not_false, Int.not_lt, Int.not_le, beq_iff_eq, beq_eq_false_iff_ne, ne_eq] at g3)
    refine go_pure0 Tk rfl rfl rfl ?_
    refine go_pure0 Tk rfl rfl rfl ?_
    refine go_pure0 Tk rfl rfl rfl ?_
    refine go_pure0 Tk rfl rfl rfl ?_
    refine go_known 34 rfl ?_ ?_
    ·intro g4
     (try simp only [decide_eq_true_eq, decide_eq_false_iff_not, Bool.not_eq_true', Bool.not_eq_false', Bool.not_eq_eq_eq_not, Bool.not_true, Bool.not_false, Int.not_lt, Int.not_le, beq_iff_eq, beq_eq_false_iff_ne, ne_eq] at g4)
     refine go_skip0 rfl rfl ?_
     refine go_skip0 rfl rfl ?_
     refine go_skip0 rfl rfl ?_
     refine go_skip0 rfl rfl ?_
     refine go_skip0 rfl rfl ?_
     refine go_skip0 rfl rfl ?_
     refine go_pure0 Tk rfl rfl rfl ?_
     refine go_pure0 Tk rfl rfl rfl ?_
     refine go_pure0 Tk rfl rfl rfl ?_
     refine go_nil ?_
     refine go_env [(4, _)] ⟨rfl, trivial⟩ ?_
     refine go_ret ⟨rfl, rfl⟩ _ _ (res1 (by rfl) (.tmp rfl)) ⟨by show Value.bool _ = Value.bool _; congr 1; unfold smallC; first | (rw [decide_eq_decide]; constructor <;> intro _ <;> omega) | (symm; rw [decide_eq_true_eq]; omega) | (symm; rw [decide_eq_false_iff_not]; omega), rfl, rfl⟩ (by repeat constructor) (by repeat constructor)
    ·intro g4
     (try simp only [decide_eq_true_eq, decide_eq_false_iff_not, Bool.not_eq_true', Bool.not_eq_false', Bool.not_eq_eq_eq_not, Bool.not_true, Bool.not_false, Int.not_lt, Int.not_le, beq_iff_eq, beq_eq_false_iff_ne, ne_eq] at g4)
     refine go_pure0 Tk rfl rfl rfl ?_
     refine go_pure0 Tk rfl rfl rfl ?_
     refine go_pure0 Tk rfl rfl rfl ?_
     refine go_known 37 rfl ?_ ?_
     ·intro g5
      (try simp only [decide_eq_true_eq, decide_eq_false_iff_not, Bool.not_eq_true', Bool.not_eq_false', Bool.not_eq_eq_eq_not, Bool.not_true, Bool.not_false, Int.not_lt, Int.not_le, beq_iff_eq, beq_eq_false_iff_ne, ne_eq] at g5)
      refine go_pure0 Tk rfl rfl rfl ?_
      refine go_pure0 Tk rfl rfl rfl ?_
      refine go_pure0 Tk rfl rfl rfl ?_
      refine go_pure0 Tk rfl rfl rfl ?_
      refine go_pure0 Tk rfl rfl rfl ?_
      refine go_pure0 Tk rfl rfl rfl ?_
      refine go_nil ?_
      refine go_env [(4, _)] ⟨rfl, trivial⟩ ?_
      refine go_ret ⟨rfl, rfl⟩ _ _ (res1 (by rfl) (.tmp rfl)) ⟨by show Value.bool _ = Value.bool _; congr 1; unfold smallC; first | (rw [decide_eq_decide]; constructor <;> intro _ <;> omega) | (symm; rw [decide_eq_true_eq]; omega) | (symm; rw [decide_eq_false_iff_not]; omega), rfl, rfl⟩ (by repeat constructor) (by repeat constructor)
     ·intro g5
      (try simp only [decide_eq_true_eq, decide_eq_false_iff_not, Bool.not_eq_true', Bool.not_eq_false', Bool.not_eq_eq_eq_not, Bool.not_true, Bool.not_false, Int.not_lt, Int.not_le, beq_iff_eq, beq_eq_false_iff_ne, ne_eq] at g5)
      refine go_skip0 rfl rfl ?_
      refine go_skip0 rfl rfl ?_
      refine go_pure0 Tk rfl rfl rfl ?_
      refine go_pure0 Tk rfl rfl rfl ?_
      refine go_pure0 Tk rfl rfl rfl ?_
      refine go_pure0 Tk rfl rfl rfl ?_
      refine go_nil ?_
      refine go_env [(4, _)] ⟨rfl, trivial⟩ ?_
      refine go_ret ⟨rfl, rfl⟩ _ _ (res1 (by rfl) (.tmp rfl)) ⟨by show Value.bool _ = Value.bool _; congr 1; unfold smallC; first | (rw [decide_eq_decide]; constructor <;> intro _ <;> omega) | (symm; rw [decide_eq_true_eq]; omega) | (symm; rw [decide_eq_false_iff_not]; omega), rfl, rfl⟩ (by repeat constructor) (by repeat constructor)
   ·intro g3
    (try simp only [decide_eq_true_eq, decide_eq_false_iff_not, Bool.not_eq_true', Bool.not_eq_false', Bool.not_eq_eq_eq_not, Bool.not_true, Bool.not_false, Int.not_lt, Int.not_le, beq_iff_eq, beq_eq_false_iff_ne, ne_eq] at g3)
    refine go_skip0 rfl rfl ?_
    refine go_skip0 rfl rfl ?_
    refine go_pure0 Tk rfl rfl rfl ?_
    refine go_pure0 Tk rfl rfl rfl ?_
    refine go_pure0 Tk rfl rfl rfl ?_
    refine go_pure0 Tk rfl rfl rfl ?_
    refine go_pure0 Tk rfl rfl rfl ?_
    refine go_known 37 rfl ?_ ?_
    ·intro g5
     (try simp only [decide_eq_true_eq, decide_eq_false_iff_not, Bool.not_eq_true', Bool.not_eq_false', Bool.not_eq_eq_eq_not, Bool.not_true, Bool.not_false, Int.not_lt, Int.not_le, beq_iff_eq, beq_eq_false_iff_ne, ne_eq] at g5)
     refine go_pure0 Tk rfl rfl rfl ?_
     refine go_pure0 Tk rfl rfl rfl ?_
     refine go_pure0 Tk rfl rfl rfl ?_
     refine go_pure0 Tk rfl rfl rfl ?_
     refine go_pure0 Tk rfl rfl rfl ?_
     refine go_pure0 Tk rfl rfl rfl ?_
     refine go_nil ?_
     refine go_env [(4, _)] ⟨rfl, trivial⟩ ?_
     refine go_ret ⟨rfl, rfl⟩ _ _ (res1 (by rfl) (.tmp rfl)) ⟨by show Value.bool _ = Value.bool _; congr 1; unfold smallC; first | (rw [decide_eq_decide]; constructor <;> intro _ <;> omega) | (symm; rw [decide_eq_true_eq]; omega) | (symm; rw [decide_eq_false_iff_not]; omega), rfl, rfl⟩ (by repeat constructor) (by repeat constructor)
    ·intro g5
     (try simp only [decide_eq_true_eq, decide_eq_false_iff_not, Bool.not_eq_true', Bool.not_eq_false', Bool.not_eq_eq_eq_not, Bool.not_true, Bool.not_false, Int.not_lt, Int.not_le, beq_iff_eq, beq_eq_false_iff_ne, ne_eq] at g5)
     refine go_skip0 rfl rfl ?_
     refine go_skip0 rfl rfl ?_
     refine go_pure0 Tk rfl rfl rfl ?_
     refine go_pure0 Tk rfl rfl rfl ?_
     refine go_pure0 Tk rfl rfl rfl ?_
     refine go_pure0 Tk rfl rfl rfl ?_
     refine go_nil ?_
     refine go_env [(4, _)] ⟨rfl, trivial⟩ ?_
     refine go_ret ⟨rfl, rfl⟩ _ _ (res1 (by rfl) (.tmp rfl)) ⟨by show Value.bool _ = Value.bool _; congr 1; unfold smallC; first | (rw [decide_eq_decide]; constructor <;> intro _ <;> omega) | (symm; rw [decide_eq_true_eq]; omega) | (symm; rw [decide_eq_false_iff_not]; omega), rfl, rfl⟩ (by repeat constructor) (by repeat constructor)
  ·intro g2
   (try simp only [decide_eq_true_eq, decide_eq_false_iff_not, Bool.not_eq_true', Bool.not_eq_false', Bool.not_eq_eq_eq_not, Bool.not_true, Bool.not_false, Int.not_lt, Int.not_le, beq_iff_eq, beq_eq_false_iff_ne, ne_eq] at g2)
   refine go_skip0 rfl rfl ?_
   refine go_skip0 rfl rfl ?_
   refine go_skip0 rfl rfl ?_
   refine go_skip0 rfl rfl ?_
   refine go_skip0 rfl rfl ?_
   refine go_skip0 rfl rfl ?_
   refine go_skip0 rfl rfl ?_
   refine go_skip0 rfl rfl ?_
   refine go_skip0 rfl rfl ?_
   refine go_skip0 rfl rfl ?_
   refine go_skip0 rfl rfl ?_
   refine go_skip0 rfl rfl ?_
   refine go_skip0 rfl rfl ?_
   refine go_skip0 rfl rfl ?_
   refine go_pure0 Tk rfl rfl rfl ?_
   refine go_pure0 Tk rfl rfl rfl ?_
   refine go_nil ?_
   refine go_env [(4, _)] ⟨rfl, trivial⟩ ?_
   refine go_ret ⟨rfl, rfl⟩ _ _ (res1 (by rfl) (.tmp rfl)) ⟨by show Value.bool _ = Value.bool _; congr 1; unfold smallC; first | (rw [decide_eq_decide]; constructor <;> intro _ <;> omega) | (symm; rw [decide_eq_true_eq]; omega) | (symm; rw [decide_eq_false_iff_not]; omega), rfl, rfl⟩ (by repeat constructor) (by repeat constructor)

set_option maxHeartbeats 2000000 in
set_option maxRecDepth 20000 in
theorem law13few (c : Cl) (CA : Option Addr) (cc : Nat) (CB : Option Addr) (cd : Nat) (A1 : Option Addr) (k1 : Nat) (a : List Fa) (A2 : Option Addr) (k2 : Nat) (b : List Fa) (A3 : Option Addr) (k3 : Nat) (d : List Fa) (ha : a.length ≤ 1152921504606846976) (hb : b.length ≤ 1152921504606846976) :
    Spec Tryz.prog 6 #[.agg #[.int .u32 c.h.p, .slice CA c.h.a.length cc, .slice CB c.b.length cd], .slice A1 a.length k1, .slice A2 b.length k2, .slice A3 d.length k3] [sl tTm CA cc c.h.a, sl tLi CB cd c.b, sl tFa A1 k1 a, sl tFa A2 k2 b, sl tFa A3 k3 d] [] (fun v Ps' Os' => v = .bool (few13 c a b d) ∧ Ps' = [] ∧ Os' = []) := by
 refine spec_of (fn := Tryz.f6) (args := [.agg #[.int .u32 c.h.p, .slice CA c.h.a.length cc, .slice CB c.b.length cd], .slice A1 a.length k1, .slice A2 b.length k2, .slice A3 d.length k3]) 40 Tryz.func6 rfl (by kernel_rfl) Tryz.ntmps6 (Nat.le_of_ble_eq_true rfl) (fun w0 hp0 hf0 => ?_)
 refine go_seq ?_
 refine go_region rfl ?_
 refine go_box Tk rfl rfl rfl rfl (by rfl) rfl rfl (fun h => nomatch h) ?_
 intro bC
 refine go_pure0 Tk rfl rfl rfl ?_
 refine go_nil ?_
 refine go_freeze_pt (b := bC) (by repeat constructor) ?_
 refine go_env [(1, _), (2, _), (3, _), (4, _)] ⟨rfl, rfl, rfl, rfl, trivial⟩ ?_
 refine go_seq ?_
 refine go_seq ?_
 refine go_len (xs := a) (by repeat constructor) (fun l0 m0 => ?_)
 refine go_len (xs := b) (by repeat constructor) (fun l1 m1 => ?_)
 refine go_len (xs := d) (by repeat constructor) (fun l2 m2 => ?_)
 refine go_region rfl ?_
 refine go_pure0 Tk rfl rfl rfl ?_
 refine go_pure0 Tk rfl rfl rfl ?_
 refine go_pure0 Tk rfl rfl rfl ?_
 refine go_pure0 Tk rfl rfl rfl ?_
 refine go_pure0 Tk rfl rfl rfl ?_
 refine go_i64 13 rfl (by omega) (by omega) ?_
 refine go_pure0 Tk rfl rfl rfl ?_
 refine go_pure0 Tk rfl rfl rfl ?_
 refine go_known 15 rfl ?_ ?_
 ·intro g1
  (try simp only [decide_eq_true_eq, decide_eq_false_iff_not, Bool.not_eq_true', Bool.not_eq_false', Bool.not_eq_eq_eq_not, Bool.not_true, Bool.not_false, Int.not_lt, Int.not_le, beq_iff_eq, beq_eq_false_iff_ne, ne_eq] at g1)
  refine go_skip0 rfl rfl ?_
  refine go_skip0 rfl rfl ?_
  refine go_skip0 rfl rfl ?_
  refine go_pure0 Tk rfl rfl rfl ?_
  refine go_pure0 Tk rfl rfl rfl ?_
  refine go_skip0 rfl rfl ?_
  refine go_skip0 rfl rfl ?_
  refine go_skip0 rfl rfl ?_
  refine go_skip0 rfl rfl ?_
  refine go_skip0 rfl rfl ?_
  refine go_skip0 rfl rfl ?_
  refine go_skip0 rfl rfl ?_
  refine go_skip0 rfl rfl ?_
  refine go_pure0 Tk rfl rfl rfl ?_
  refine go_nil ?_
  refine go_env [(1, _), (2, _), (3, _), (4, _), (29, _)] ⟨rfl, rfl, rfl, rfl, rfl, trivial⟩ ?_
  refine go_cond_t rfl ?_
  refine go_seq ?_
  refine go_region rfl ?_
  refine go_pure0 Tk rfl rfl rfl ?_
  refine go_nil ?_
  refine go_env [(8, _)] ⟨rfl, trivial⟩ ?_
  refine go_ret ⟨rfl, rfl⟩ _ _ (res1 (by rfl) (.tmp rfl)) ⟨by first | rw [few13_no (c := c) (a := a) (b := b) (d := d) (fun h => by have h1 := h.1; have h2 := h.2.1; have h3 := h.2.2.1; first | omega | (rw [g3] at h3; exact absurd h3 (by decide)))] | (congr 1; exact few13_eq (c := c) (a := a) (b := b) (d := d) (by omega) (by omega) g3), rfl, rfl⟩ (by repeat constructor) (by repeat constructor)
 ·intro g1
  (try simp only [decide_eq_true_eq, decide_eq_false_iff_not, Bool.not_eq_true', Bool.not_eq_false', Bool.not_eq_eq_eq_not, Bool.not_true, Bool.not_false, Int.not_lt, Int.not_le, beq_iff_eq, beq_eq_false_iff_ne, ne_eq] at g1)
  refine go_pure0 Tk rfl rfl rfl ?_
  refine go_pure0 Tk rfl rfl rfl ?_
  refine go_pure0 Tk rfl rfl rfl ?_
  refine go_pure0 Tk rfl rfl rfl ?_
  refine go_pure0 Tk rfl rfl rfl ?_
  refine go_known 20 rfl ?_ ?_
  ·intro g2
   (try simp only [decide_eq_true_eq, decide_eq_false_iff_not, Bool.not_eq_true', Bool.not_eq_false', Bool.not_eq_eq_eq_not, Bool.not_true, Bool.not_false, Int.not_lt, Int.not_le, beq_iff_eq, beq_eq_false_iff_ne, ne_eq] at g2)
   refine go_skip0 rfl rfl ?_
   refine go_skip0 rfl rfl ?_
   refine go_skip0 rfl rfl ?_
   refine go_skip0 rfl rfl ?_
   refine go_skip0 rfl rfl ?_
   refine go_skip0 rfl rfl ?_
   refine go_skip0 rfl rfl ?_
   refine go_skip0 rfl rfl ?_
   refine go_pure0 Tk rfl rfl rfl ?_
   refine go_nil ?_
   refine go_env [(1, _), (2, _), (3, _), (4, _), (29, _)] ⟨rfl, rfl, rfl, rfl, rfl, trivial⟩ ?_
   refine go_cond_t rfl ?_
   refine go_seq ?_
   refine go_region rfl ?_
   refine go_pure0 Tk rfl rfl rfl ?_
   refine go_nil ?_
   refine go_env [(8, _)] ⟨rfl, trivial⟩ ?_
   refine go_ret ⟨rfl, rfl⟩ _ _ (res1 (by rfl) (.tmp rfl)) ⟨by first | rw [few13_no (c := c) (a := a) (b := b) (d := d) (fun h => by have h1 := h.1; have h2 := h.2.1; have h3 := h.2.2.1; first | omega | (rw [g3] at h3; exact absurd h3 (by decide)))] | (congr 1; exact few13_eq (c := c) (a := a) (b := b) (d := d) (by omega) (by omega) g3), rfl, rfl⟩ (by repeat constructor) (by repeat constructor)
  ·intro g2
   (try simp only [decide_eq_true_eq, decide_eq_false_iff_not, Bool.not_eq_true', Bool.not_eq_false', Bool.not_eq_eq_eq_not, Bool.not_true, Bool.not_false, Int.not_lt, Int.not_le, beq_iff_eq, beq_eq_false_iff_ne, ne_eq] at g2)
   refine go_val0 rfl (ldv Tk rfl rfl rfl) rfl ?_
   refine go_pure0 Tk rfl rfl rfl ?_
   refine go_pure0 Tk rfl rfl rfl ?_
   refine go_pure0 Tk rfl rfl rfl ?_
   refine go_pure0 Tk rfl rfl rfl ?_
   refine go_pure0 Tk rfl rfl rfl ?_
   refine go_i64 26 rfl (by omega) (by omega) ?_
   refine go_re 26 (.int .i64 ((a.length + b.length : Nat) : Int)) (by rfl) ?_
   refine go_call (law13Small c CA cc CB cd (a.length + b.length)) rfl rfl (by rfl) rfl (by repeat constructor) (by repeat constructor) (fun h => nomatch h) ?_
   rintro _ _ _ ⟨rfl, rfl, rfl⟩
   refine go_pure0 Tk rfl rfl rfl ?_
   refine go_pure0 Tk rfl rfl rfl ?_
   refine go_nil ?_
   refine go_env [(1, _), (2, _), (3, _), (4, _), (29, _)] ⟨rfl, rfl, rfl, rfl, rfl, trivial⟩ ?_
   refine go_cond rfl ?_ ?_
   ·intro g3
    (try simp only [decide_eq_true_eq, decide_eq_false_iff_not, Bool.not_eq_true', Bool.not_eq_false', Bool.not_eq_eq_eq_not, Bool.not_true, Bool.not_false, Int.not_lt, Int.not_le, beq_iff_eq, beq_eq_false_iff_ne, ne_eq] at g3)
    refine go_seq ?_
    refine go_region rfl ?_
    refine go_pure0 Tk rfl rfl rfl ?_
    refine go_nil ?_
    refine go_env [(8, _)] ⟨rfl, trivial⟩ ?_
    refine go_ret ⟨rfl, rfl⟩ _ _ (res1 (by rfl) (.tmp rfl)) ⟨by first | rw [few13_no (c := c) (a := a) (b := b) (d := d) (fun h => by have h1 := h.1; have h2 := h.2.1; have h3 := h.2.2.1; first | omega | (rw [g3] at h3; exact absurd h3 (by decide)))] | (congr 1; exact few13_eq (c := c) (a := a) (b := b) (d := d) (by omega) (by omega) g3), rfl, rfl⟩ (by repeat constructor) (by repeat constructor)
   ·intro g3
    (try simp only [decide_eq_true_eq, decide_eq_false_iff_not, Bool.not_eq_true', Bool.not_eq_false', Bool.not_eq_eq_eq_not, Bool.not_true, Bool.not_false, Int.not_lt, Int.not_le, beq_iff_eq, beq_eq_false_iff_ne, ne_eq] at g3)
    refine go_skip ?_
    refine go_seq ?_
    refine go_draw ([cl bC 0 [.int .u32 c.h.p, .slice CA c.h.a.length cc, .slice CB c.b.length cd]]) ([]) [0] (SL.pre [(1, 3), (1, 5), (1, 7), (2, 0)] (.two (SL.pre [(0, 1), (0, 2), (0, 4), (0, 6), (0, 8), (0, 9), (1, 10)] .nil) (SL.pre [(0, 2)] (.two (SL.pre [(0, 1), (0, 4), (0, 6), (0, 8), (0, 9), (1, 10)] .nil) (SL.pre [(0, 4)] (.two (SL.pre [(0, 1), (0, 6), (0, 8), (0, 9), (1, 10)] .nil) (SL.pre [(0, 6)] (.two (SL.pre [(0, 1), (0, 8), (0, 9), (1, 10)] .nil) (SL.pre [(0, 8), (0, 1), (0, 9), (1, 10)] .nil))))))))) mixed rfl (by kernel_rfl) ?_
    refine go_pure1 Tk rfl rfl rfl ?_
    refine go_pure1 Tk rfl rfl rfl ?_
    refine go_pure1 Tk rfl rfl rfl ?_
    refine go_val2a rfl (ldv Tk rfl rfl rfl) rfl ?_
    refine go_two ?_ ?_
    ·skip
     refine go_bslice Tk rfl rfl rfl rfl rfl rfl rfl rfl (fun h => nomatch h) ?_
     intro bs
     refine go_lit tCl (b := bs) [c] (by repeat constructor) (fun hp a => ⟨[.int .u32 c.h.p, .slice CA c.h.a.length cc, .slice CB c.b.length cd], [], rfl, tCl_mk (a (sl tTm CA cc c.h.a) (by repeat constructor)) (a (sl tLi CB cd c.b) (by repeat constructor)), rfl⟩) (by simp) ?_
     refine go_bslice Tk rfl rfl rfl rfl rfl rfl rfl rfl (fun _ _ => satA) ?_
     intro bz
     refine go_lit_ol (b := bz) tFa [] (by repeat constructor) (fun _ _ => rfl) (by simp) ?_
     refine go_appendN (T := tFa) (xs := []) (ys := a) Tk rfl rfl rfl rfl rfl rfl rfl rfl rfl (by repeat constructor) rfl (by repeat constructor) (by simp; omega) (by first | exact (fun _ _ _ => satA) | exact (fun h => nomatch h) | exact (fun h => nomatch (Eq.symm h).trans (show _ = false by kernel_rfl))) ?_
     intro B1 j1
     rw [List.nil_append]
     refine go_appendN (T := tFa) (xs := a) (ys := b) Tk rfl rfl rfl rfl rfl rfl rfl rfl rfl (by repeat constructor) rfl (by repeat constructor) (by omega) (by first | exact (fun _ _ _ => satA) | exact (fun h => nomatch h) | exact (fun h => nomatch (Eq.symm h).trans (show _ = false by kernel_rfl))) ?_
     intro B2 j2
     refine go_appendN (T := tFa) (xs := a ++ b) (ys := d) Tk rfl rfl rfl rfl rfl rfl rfl rfl rfl (by repeat constructor) rfl (by repeat constructor) (by simp; omega) (by first | exact (fun _ _ _ => satA) | exact (fun h => nomatch h) | exact (fun h => nomatch (Eq.symm h).trans (show _ = false by kernel_rfl))) ?_
     intro B3 j3
     refine go_freeze_ol (xs := a ++ b ++ d) (by repeat constructor) ?_
     refine go_call (law11Few (some ⟨bs, 0, none⟩) 1 [c] B3 j3 (a ++ b ++ d)) rfl rfl (by rfl) rfl (by repeat constructor) (by repeat constructor) (fun h => nomatch h) ?_
     rintro _ _ _ ⟨rfl, rfl, rfl⟩
     refine go_pure1 Tk rfl rfl rfl ?_
     refine go_nil ?_
     refine go_env [(8, _)] ⟨rfl, trivial⟩ ?_
     refine go_ret ⟨rfl, rfl⟩ _ _ (res1 (by rfl) (.tmp rfl)) ⟨by first | rw [few13_no (c := c) (a := a) (b := b) (d := d) (fun h => by have h1 := h.1; have h2 := h.2.1; have h3 := h.2.2.1; first | omega | (rw [g3] at h3; exact absurd h3 (by decide)))] | (congr 1; exact few13_eq (c := c) (a := a) (b := b) (d := d) (by omega) (by omega) g3), rfl, rfl⟩ (by repeat constructor) (by repeat constructor)
    refine go_bslice Tk rfl rfl rfl rfl rfl rfl rfl rfl (fun _ _ => satA) ?_
    intro bz
    refine go_lit_ol (b := bz) tFa [] (by repeat constructor) (fun _ _ => rfl) (by simp) ?_
    refine go_two ?_ ?_
    ·skip
     refine go_bslice Tk rfl rfl rfl rfl rfl rfl rfl rfl (fun h => nomatch h) ?_
     intro bs
     refine go_lit tCl (b := bs) [c] (by repeat constructor) (fun hp a => ⟨[.int .u32 c.h.p, .slice CA c.h.a.length cc, .slice CB c.b.length cd], [], rfl, tCl_mk (a (sl tTm CA cc c.h.a) (by repeat constructor)) (a (sl tLi CB cd c.b) (by repeat constructor)), rfl⟩) (by simp) ?_
     refine go_appendN (T := tFa) (xs := []) (ys := a) Tk rfl rfl rfl rfl rfl rfl rfl rfl rfl (by repeat constructor) rfl (by repeat constructor) (by simp; omega) (by first | exact (fun _ _ _ => satA) | exact (fun h => nomatch h) | exact (fun h => nomatch (Eq.symm h).trans (show _ = false by kernel_rfl))) ?_
     intro B1 j1
     rw [List.nil_append]
     refine go_appendN (T := tFa) (xs := a) (ys := b) Tk rfl rfl rfl rfl rfl rfl rfl rfl rfl (by repeat constructor) rfl (by repeat constructor) (by omega) (by first | exact (fun _ _ _ => satA) | exact (fun h => nomatch h) | exact (fun h => nomatch (Eq.symm h).trans (show _ = false by kernel_rfl))) ?_
     intro B2 j2
     refine go_appendN (T := tFa) (xs := a ++ b) (ys := d) Tk rfl rfl rfl rfl rfl rfl rfl rfl rfl (by repeat constructor) rfl (by repeat constructor) (by simp; omega) (by first | exact (fun _ _ _ => satA) | exact (fun h => nomatch h) | exact (fun h => nomatch (Eq.symm h).trans (show _ = false by kernel_rfl))) ?_
     intro B3 j3
     refine go_freeze_ol (xs := a ++ b ++ d) (by repeat constructor) ?_
     refine go_call (law11Few (some ⟨bs, 0, none⟩) 1 [c] B3 j3 (a ++ b ++ d)) rfl rfl (by rfl) rfl (by repeat constructor) (by repeat constructor) (fun h => nomatch h) ?_
     rintro _ _ _ ⟨rfl, rfl, rfl⟩
     refine go_pure1 Tk rfl rfl rfl ?_
     refine go_nil ?_
     refine go_env [(8, _)] ⟨rfl, trivial⟩ ?_
     refine go_ret ⟨rfl, rfl⟩ _ _ (res1 (by rfl) (.tmp rfl)) ⟨by first | rw [few13_no (c := c) (a := a) (b := b) (d := d) (fun h => by have h1 := h.1; have h2 := h.2.1; have h3 := h.2.2.1; first | omega | (rw [g3] at h3; exact absurd h3 (by decide)))] | (congr 1; exact few13_eq (c := c) (a := a) (b := b) (d := d) (by omega) (by omega) g3), rfl, rfl⟩ (by repeat constructor) (by repeat constructor)
    refine go_appendN (T := tFa) (xs := []) (ys := a) Tk rfl rfl rfl rfl rfl rfl rfl rfl rfl (by repeat constructor) rfl (by repeat constructor) (by simp; omega) (by first | exact (fun _ _ _ => satA) | exact (fun h => nomatch h) | exact (fun h => nomatch (Eq.symm h).trans (show _ = false by kernel_rfl))) ?_
    intro B1 j1
    rw [List.nil_append]
    refine go_two ?_ ?_
    ·skip
     refine go_bslice Tk rfl rfl rfl rfl rfl rfl rfl rfl (fun h => nomatch h) ?_
     intro bs
     refine go_lit tCl (b := bs) [c] (by repeat constructor) (fun hp a => ⟨[.int .u32 c.h.p, .slice CA c.h.a.length cc, .slice CB c.b.length cd], [], rfl, tCl_mk (a (sl tTm CA cc c.h.a) (by repeat constructor)) (a (sl tLi CB cd c.b) (by repeat constructor)), rfl⟩) (by simp) ?_
     refine go_appendN (T := tFa) (xs := a) (ys := b) Tk rfl rfl rfl rfl rfl rfl rfl rfl rfl (by repeat constructor) rfl (by repeat constructor) (by omega) (by first | exact (fun _ _ _ => satA) | exact (fun h => nomatch h) | exact (fun h => nomatch (Eq.symm h).trans (show _ = false by kernel_rfl))) ?_
     intro B2 j2
     refine go_appendN (T := tFa) (xs := a ++ b) (ys := d) Tk rfl rfl rfl rfl rfl rfl rfl rfl rfl (by repeat constructor) rfl (by repeat constructor) (by simp; omega) (by first | exact (fun _ _ _ => satA) | exact (fun h => nomatch h) | exact (fun h => nomatch (Eq.symm h).trans (show _ = false by kernel_rfl))) ?_
     intro B3 j3
     refine go_freeze_ol (xs := a ++ b ++ d) (by repeat constructor) ?_
     refine go_call (law11Few (some ⟨bs, 0, none⟩) 1 [c] B3 j3 (a ++ b ++ d)) rfl rfl (by rfl) rfl (by repeat constructor) (by repeat constructor) (fun h => nomatch h) ?_
     rintro _ _ _ ⟨rfl, rfl, rfl⟩
     refine go_pure1 Tk rfl rfl rfl ?_
     refine go_nil ?_
     refine go_env [(8, _)] ⟨rfl, trivial⟩ ?_
     refine go_ret ⟨rfl, rfl⟩ _ _ (res1 (by rfl) (.tmp rfl)) ⟨by first | rw [few13_no (c := c) (a := a) (b := b) (d := d) (fun h => by have h1 := h.1; have h2 := h.2.1; have h3 := h.2.2.1; first | omega | (rw [g3] at h3; exact absurd h3 (by decide)))] | (congr 1; exact few13_eq (c := c) (a := a) (b := b) (d := d) (by omega) (by omega) g3), rfl, rfl⟩ (by repeat constructor) (by repeat constructor)
    refine go_appendN (T := tFa) (xs := a) (ys := b) Tk rfl rfl rfl rfl rfl rfl rfl rfl rfl (by repeat constructor) rfl (by repeat constructor) (by omega) (by first | exact (fun _ _ _ => satA) | exact (fun h => nomatch h) | exact (fun h => nomatch (Eq.symm h).trans (show _ = false by kernel_rfl))) ?_
    intro B2 j2
    refine go_two ?_ ?_
    ·skip
     refine go_bslice Tk rfl rfl rfl rfl rfl rfl rfl rfl (fun h => nomatch h) ?_
     intro bs
     refine go_lit tCl (b := bs) [c] (by repeat constructor) (fun hp a => ⟨[.int .u32 c.h.p, .slice CA c.h.a.length cc, .slice CB c.b.length cd], [], rfl, tCl_mk (a (sl tTm CA cc c.h.a) (by repeat constructor)) (a (sl tLi CB cd c.b) (by repeat constructor)), rfl⟩) (by simp) ?_
     refine go_appendN (T := tFa) (xs := a ++ b) (ys := d) Tk rfl rfl rfl rfl rfl rfl rfl rfl rfl (by repeat constructor) rfl (by repeat constructor) (by simp; omega) (by first | exact (fun _ _ _ => satA) | exact (fun h => nomatch h) | exact (fun h => nomatch (Eq.symm h).trans (show _ = false by kernel_rfl))) ?_
     intro B3 j3
     refine go_freeze_ol (xs := a ++ b ++ d) (by repeat constructor) ?_
     refine go_call (law11Few (some ⟨bs, 0, none⟩) 1 [c] B3 j3 (a ++ b ++ d)) rfl rfl (by rfl) rfl (by repeat constructor) (by repeat constructor) (fun h => nomatch h) ?_
     rintro _ _ _ ⟨rfl, rfl, rfl⟩
     refine go_pure1 Tk rfl rfl rfl ?_
     refine go_nil ?_
     refine go_env [(8, _)] ⟨rfl, trivial⟩ ?_
     refine go_ret ⟨rfl, rfl⟩ _ _ (res1 (by rfl) (.tmp rfl)) ⟨by first | rw [few13_no (c := c) (a := a) (b := b) (d := d) (fun h => by have h1 := h.1; have h2 := h.2.1; have h3 := h.2.2.1; first | omega | (rw [g3] at h3; exact absurd h3 (by decide)))] | (congr 1; exact few13_eq (c := c) (a := a) (b := b) (d := d) (by omega) (by omega) g3), rfl, rfl⟩ (by repeat constructor) (by repeat constructor)
    refine go_appendN (T := tFa) (xs := a ++ b) (ys := d) Tk rfl rfl rfl rfl rfl rfl rfl rfl rfl (by repeat constructor) rfl (by repeat constructor) (by simp; omega) (by first | exact (fun _ _ _ => satA) | exact (fun h => nomatch h) | exact (fun h => nomatch (Eq.symm h).trans (show _ = false by kernel_rfl))) ?_
    intro B3 j3
    refine go_freeze_ol (xs := a ++ b ++ d) (by repeat constructor) ?_
    refine go_bslice Tk rfl rfl rfl rfl rfl rfl rfl rfl (fun h => nomatch h) ?_
    intro bs
    refine go_lit tCl (b := bs) [c] (by repeat constructor) (fun hp a => ⟨[.int .u32 c.h.p, .slice CA c.h.a.length cc, .slice CB c.b.length cd], [], rfl, tCl_mk (a (sl tTm CA cc c.h.a) (by repeat constructor)) (a (sl tLi CB cd c.b) (by repeat constructor)), rfl⟩) (by simp) ?_
    refine go_call (law11Few (some ⟨bs, 0, none⟩) 1 [c] B3 j3 (a ++ b ++ d)) rfl rfl (by rfl) rfl (by repeat constructor) (by repeat constructor) (fun h => nomatch h) ?_
    rintro _ _ _ ⟨rfl, rfl, rfl⟩
    refine go_pure1 Tk rfl rfl rfl ?_
    refine go_nil ?_
    refine go_env [(8, _)] ⟨rfl, trivial⟩ ?_
    refine go_ret ⟨rfl, rfl⟩ _ _ (res1 (by rfl) (.tmp rfl)) ⟨by first | rw [few13_no (c := c) (a := a) (b := b) (d := d) (fun h => by have h1 := h.1; have h2 := h.2.1; have h3 := h.2.2.1; first | omega | (rw [g3] at h3; exact absurd h3 (by decide)))] | (congr 1; exact few13_eq (c := c) (a := a) (b := b) (d := d) (by omega) (by omega) g3), rfl, rfl⟩ (by repeat constructor) (by repeat constructor)

end Go.Proofs.YtkhddfknpegpmaaGreat.SL

/- Contracts of functions of the program (Law13b): what each call comes to, for the laws' proofs. -/
set_option linter.unusedVariables false
set_option linter.unusedSimpArgs false
namespace Go.Proofs.YtkhddfknpegpmaaGreat.SL
open Go 

/-- The chapter's example. -/
def wc13 : Cl := ⟨⟨1, [⟨true, 0⟩]⟩, [⟨false, ⟨2, [⟨true, 0⟩, ⟨true, 1⟩]⟩⟩, ⟨true, ⟨3, [⟨true, 1⟩]⟩⟩]⟩
theorem ok_am (p : Int) (l : List Tm) (h : (decide (0 ≤ p ∧ p < 4294967296) && l.all fun t => decide (0 ≤ t.n ∧ t.n < 4294967296)) = true) : (⟨p, l⟩ : Am).ok := by
  simp only [Bool.and_eq_true, decide_eq_true_eq, List.all_eq_true] at h
  exact ⟨h.1, fun t ht => h.2 t ht⟩
theorem ok_fa (p : Int) (l : List Int) (h : (decide (0 ≤ p ∧ p < 4294967296) && l.all fun t => decide (0 ≤ t ∧ t < 4294967296)) = true) : (⟨p, l⟩ : Fa).ok := by
  simp only [Bool.and_eq_true, decide_eq_true_eq, List.all_eq_true] at h
  exact ⟨h.1, fun t ht => h.2 t ht⟩
theorem wc13_ok : wc13.ok := ⟨ok_am _ _ (by decide), fun l hl => by
  simp only [wc13, List.mem_cons, List.not_mem_nil, or_false] at hl
  rcases hl with rfl | rfl <;> exact ok_am _ _ (by decide)⟩
theorem wc13_r : (rightC [wc13]).2 = 0 := by
  have h1 : mayC wc13 = true := by decide
  have h2 : heldC wc13 = true := by decide
  have h3 : (clauseL (fun _ => none) wc13).1 = true := by simp [clauseL, wc13, stepL, fitB, learn]
  unfold rightC
  rw [if_neg (by simp)]
  unfold rightF
  rw [if_pos (by unfold badC; rw [h1, h2, h3]; rfl)]
  rfl
theorem wc13_hd {F R N : Fa → Prop} {some : Bool} {x : Fa} : Hd wc13 F R N some x ↔ ∃ m n : Int, F ⟨2, [m, n]⟩ ∧ ¬ N ⟨3, [n]⟩ ∧ (some = true → R ⟨2, [m, n]⟩) ∧ x = ⟨1, [m]⟩ := by
  unfold Hd
  constructor
  · rintro ⟨s, h1, h2, h3, h4⟩
    refine ⟨s 0, s 1, h1 _ (.head _) rfl, h2 _ (.tail _ (.head _)) rfl, fun e => ?_, h4⟩
    obtain ⟨l, hl, e1, e2⟩ := h3 e
    simp only [wc13, List.mem_cons, List.not_mem_nil, or_false] at hl
    rcases hl with rfl | rfl
    · exact e2
    · cases e1
  · rintro ⟨m, n, h1, h2, h3, h4⟩
    refine ⟨fun k => if k = 0 then m else n, fun l hl e => ?_, fun l hl e => ?_, fun e => ⟨_, .head _, rfl, h3 e⟩, h4⟩
    · simp only [wc13, List.mem_cons, List.not_mem_nil, or_false] at hl
      rcases hl with rfl | rfl
      · exact h1
      · cases e
    · simp only [wc13, List.mem_cons, List.not_mem_nil, or_false] at hl
      rcases hl with rfl | rfl
      · cases e
      · exact h2
theorem rises_one (x : Fa) : rises [x] := List.pairwise_singleton _ _
theorem wh_1 : headsC wc13 (fof [(⟨2, [10, 11]⟩ : Fa), (⟨2, [12, 13]⟩ : Fa)]) [] (fof [(⟨3, [11]⟩ : Fa)]) false = [(⟨1, [12]⟩ : Fa)] := by
  refine rises_ext (headsC_rises _ _ _ _ _) (rises_one _) fun x => ?_
  rw [mem_headsC wc13_ok wc13_r, wc13_hd]
  simp only [mem_fof, List.mem_cons, List.not_mem_nil, or_false, Fa.mk.injEq, List.cons.injEq, and_true, true_and]
  constructor
  · rintro ⟨m, n, h1 | h1, h2, _, rfl⟩
    · exact absurd h1.2 h2
    · rw [h1.1]
  · rintro rfl; exact ⟨12, 13, .inr ⟨rfl, rfl⟩, by decide, by simp, rfl⟩
theorem wh_2 : headsC wc13 (fof [(⟨2, [10, 11]⟩ : Fa), (⟨2, [12, 13]⟩ : Fa)]) (fof [(⟨2, [10, 11]⟩ : Fa)]) [] true = [(⟨1, [10]⟩ : Fa)] := by
  refine rises_ext (headsC_rises _ _ _ _ _) (rises_one _) fun x => ?_
  rw [mem_headsC wc13_ok wc13_r, wc13_hd]
  simp only [mem_fof, List.mem_cons, List.not_mem_nil, or_false, Fa.mk.injEq, List.cons.injEq, and_true, true_and]
  constructor
  · rintro ⟨m, n, h1, _, h3, rfl⟩
    rw [(h3 trivial).1]
  · rintro rfl; exact ⟨10, 11, .inl ⟨rfl, rfl⟩, by simp, by simp, rfl⟩
theorem wj_1 {F R N : List Fa} (hF : F.length ≤ 2) : (goL wc13 F R N wc13.b ch0 true).length ≤ 50000000 ∧ (goL wc13 F R N wc13.b ch0 false).length ≤ 50000000 := by
  have key : ∀ b, (goL wc13 F R N wc13.b ch0 b).length ≤ 2 := fun b => Nat.le_trans (goL_len _ _ _ _ _ _ _) (by show F.length ^ 1 ≤ 2; rw [Nat.pow_one]; exact hF)
  exact ⟨Nat.le_trans (key _) (by omega), Nat.le_trans (key _) (by omega)⟩
theorem js_small {F R N : List Fa} (hF : ∀ x ∈ F, x.ok ∧ x.a.length ≤ 100000) (nF : F.length ≤ 50000000) (nR : R.length ≤ 50000000) (nN : N.length ≤ 50000000) : JoinS (fof F) (fof R) (fof N) :=
  ⟨Nat.le_trans (fof_len _) nF, fun x hx => (hF x (mem_fof.1 hx)).2, fun x hx => (hF x (mem_fof.1 hx)).1, rises_fof _, Nat.le_trans (fof_len _) nR, rises_fof _, Nat.le_trans (fof_len _) nN⟩
theorem wf_two : ∀ x ∈ [(⟨2, [10, 11]⟩ : Fa), (⟨2, [12, 13]⟩ : Fa)], x.ok ∧ x.a.length ≤ 100000 := by
  intro x hx
  simp only [List.mem_cons, List.not_mem_nil, or_false] at hx
  rcases hx with rfl | rfl <;> exact ⟨ok_fa _ _ (by decide), by simp⟩

set_option maxHeartbeats 2000000 in
set_option maxRecDepth 20000 in
theorem lawWorks13  :
    Spec Tryz.prog 7 #[] [] [] (fun v Ps' Os' => v = .bool true ∧ Ps' = [] ∧ Os' = []) := by
 refine spec_of (fn := Tryz.f7) (args := []) 54 Tryz.func7 rfl (by kernel_rfl) Tryz.ntmps7 (Nat.le_of_ble_eq_true rfl) (fun w0 hp0 hf0 => ?_)
 refine go_seq ?_
 refine go_region rfl ?_
 refine go_pure0 Tk rfl rfl rfl ?_
 refine go_nil ?_
 refine go_env [] trivial ?_
 refine go_seq ?_
 refine go_region rfl ?_
 refine go_call (law11V 0) rfl rfl (by rfl) rfl (by repeat constructor) (by repeat constructor) (fun h => nomatch h) ?_
 rintro _ _ _ ⟨rfl, rfl, rfl⟩
 refine go_bslice Tk rfl rfl rfl rfl rfl rfl rfl rfl (fun h => nomatch h) ?_
 intro u1
 refine go_lit tTm (b := u1) [⟨true, 0⟩] (by repeat constructor) (fun hp a => ⟨[_, _], [], rfl, tTm_mk (x := ⟨true, 0⟩), rfl⟩) (by simp) ?_
 refine go_call (law11A _ _ _ _) rfl rfl (by rfl) rfl (by repeat constructor) (by repeat constructor) (fun h => nomatch h) ?_
 rintro _ _ _ ⟨rfl, rfl, rfl⟩
 refine go_call (law11V 0) rfl rfl (by rfl) rfl (by repeat constructor) (by repeat constructor) (fun h => nomatch h) ?_
 rintro _ _ _ ⟨rfl, rfl, rfl⟩
 refine go_call (law11V 1) rfl rfl (by rfl) rfl (by repeat constructor) (by repeat constructor) (fun h => nomatch h) ?_
 rintro _ _ _ ⟨rfl, rfl, rfl⟩
 refine go_bslice Tk rfl rfl rfl rfl rfl rfl rfl rfl (fun h => nomatch h) ?_
 intro u2
 refine go_lit tTm (b := u2) [⟨true, 0⟩, ⟨true, 1⟩] (by repeat constructor) (fun hp a => ⟨[_, _], _, rfl, tTm_mk (x := ⟨true, 0⟩), ⟨[_, _], [], rfl, tTm_mk (x := ⟨true, 1⟩), rfl⟩⟩) (by simp) ?_
 refine go_call (law11Yes _ _ _ _) rfl rfl (by rfl) rfl (by repeat constructor) (by repeat constructor) (fun h => nomatch h) ?_
 rintro _ _ _ ⟨rfl, rfl, rfl⟩
 refine go_call (law11V 1) rfl rfl (by rfl) rfl (by repeat constructor) (by repeat constructor) (fun h => nomatch h) ?_
 rintro _ _ _ ⟨rfl, rfl, rfl⟩
 refine go_bslice Tk rfl rfl rfl rfl rfl rfl rfl rfl (fun h => nomatch h) ?_
 intro u3
 refine go_lit tTm (b := u3) [⟨true, 1⟩] (by repeat constructor) (fun hp a => ⟨[_, _], [], rfl, tTm_mk (x := ⟨true, 1⟩), rfl⟩) (by simp) ?_
 refine go_call (law11No _ _ _ _) rfl rfl (by rfl) rfl (by repeat constructor) (by repeat constructor) (fun h => nomatch h) ?_
 rintro _ _ _ ⟨rfl, rfl, rfl⟩
 refine go_bslice Tk rfl rfl rfl rfl rfl rfl rfl rfl (fun h => nomatch h) ?_
 intro u5
 refine go_lit tLi (b := u5) wc13.b (by repeat constructor) (fun hp a => ⟨[_, _, _], _, rfl, tLi_mk (x := ⟨false, ⟨2, [⟨true, 0⟩, ⟨true, 1⟩]⟩⟩) (a (sl tTm (some ⟨u2, 0, none⟩) 2 [⟨true, 0⟩, ⟨true, 1⟩]) (by repeat constructor)), [_, _, _], [], rfl, tLi_mk (x := ⟨true, ⟨3, [⟨true, 1⟩]⟩⟩) (a (sl tTm (some ⟨u3, 0, none⟩) 1 [⟨true, 1⟩]) (by repeat constructor)), rfl⟩) (by decide) ?_
 refine go_call (law11If _ _ _ _ _ _ _) rfl rfl (by rfl) rfl (by repeat constructor) (by repeat constructor) (fun h => nomatch h) ?_
 rintro _ _ _ ⟨rfl, rfl, rfl⟩
 refine go_alloc Tk rfl rfl rfl (by rfl) rfl rfl (fun h => nomatch h) ?_
 intro bC
 refine go_store Tk rfl rfl rfl rfl rfl rfl (by repeat constructor) rfl rfl (by rfl) (fun h => nomatch h) ?_
 refine go_nil ?_
 refine go_freeze_pt (b := bC) (by repeat constructor) ?_
 refine go_env [(1, _)] ⟨rfl, trivial⟩ ?_
 refine go_seq ?_
 refine go_region rfl ?_
 refine go_bslice Tk rfl rfl rfl rfl rfl rfl rfl rfl (fun h => nomatch h) ?_
 intro b1
 refine go_lit_int (kk := .u32) [10, 11] (by repeat constructor) (by simp) ?_
 refine go_call (law13F 2 _ 2 2) rfl rfl (by rfl) rfl (by repeat constructor) (by repeat constructor) (fun h => nomatch h) ?_
 rintro _ _ _ ⟨rfl, rfl, rfl⟩
 refine go_bslice Tk rfl rfl rfl rfl rfl rfl rfl rfl (fun h => nomatch h) ?_
 intro b2
 refine go_lit_int (kk := .u32) [12, 13] (by repeat constructor) (by simp) ?_
 refine go_call (law13F 2 _ 2 2) rfl rfl (by rfl) rfl (by repeat constructor) (by repeat constructor) (fun h => nomatch h) ?_
 rintro _ _ _ ⟨rfl, rfl, rfl⟩
 refine go_bslice Tk rfl rfl rfl rfl rfl rfl rfl rfl (fun h => nomatch h) ?_
 intro u6
 refine go_lit tFa (b := u6) [(⟨2, [10, 11]⟩ : Fa), (⟨2, [12, 13]⟩ : Fa)] (by repeat constructor) (fun hp a => ⟨[_, _], _, rfl, tFa_mk (x := (⟨2, [10, 11]⟩ : Fa)) (a (sl tU _ _ [10, 11]) (by repeat constructor)), [_, _], [], rfl, tFa_mk (x := (⟨2, [12, 13]⟩ : Fa)) (a (sl tU _ _ [12, 13]) (by repeat constructor)), rfl⟩) (by simp) ?_
 refine go_call (relOf (some ⟨u6, 0, none⟩) 2 [(⟨2, [10, 11]⟩ : Fa), (⟨2, [12, 13]⟩ : Fa)] (by simp) (by intro x hx; simp only [List.mem_cons, List.not_mem_nil, or_false] at hx; first | (rcases hx with rfl | rfl <;> simp) | (subst hx; simp))) rfl rfl (by rfl) rfl (by repeat constructor) (by repeat constructor) (fun h => nomatch h) ?_
 rintro _ _ _ ⟨bx, rfl, rfl, rfl⟩
 refine go_pure0 Tk rfl rfl rfl ?_
 refine go_nil ?_
 refine go_freeze_rel (b := bx) (by repeat constructor) ?_
 refine go_ent (relN (some ⟨bx, 0, none⟩) (fof [(⟨2, [10, 11]⟩ : Fa), (⟨2, [12, 13]⟩ : Fa)])) (fun hh hps => relN_some (hps (relP bx (fof [(⟨2, [10, 11]⟩ : Fa), (⟨2, [12, 13]⟩ : Fa)])) (by repeat constructor))) ?_
 refine go_env [(1, _), (2, _)] ⟨rfl, rfl, trivial⟩ ?_
 refine go_seq ?_
 refine go_draw ([cl bC 0 [.int .u32 wc13.h.p, .slice (some ⟨u1, 0, none⟩) wc13.h.a.length 1, .slice (some ⟨u5, 0, none⟩) wc13.b.length 2]]) ([]) [0] (SL.pre [(1, 1), (2, 0), (0, 2), (0, 3), (0, 4), (0, 5), (0, 6), (1, 7)] .nil) mixed rfl (by kernel_rfl) ?_
 refine go_pure1 Tk rfl rfl rfl ?_
 refine go_val2a rfl (ldv Tk rfl rfl rfl) rfl ?_
 refine go_bslice Tk rfl rfl rfl rfl rfl rfl rfl rfl (fun _ _ => satA) ?_
 intro b3
 refine go_lit_int (kk := .u32) [11] (by repeat constructor) (by simp) ?_
 refine go_call (law13F 3 _ 1 1) rfl rfl (by rfl) rfl (by repeat constructor) (by repeat constructor) (fun _ v Ps' Os' hq => by obtain ⟨rfl, rfl, rfl⟩ := hq; exact satS (by repeat constructor) (by repeat constructor)) ?_
 rintro _ _ _ ⟨rfl, rfl, rfl⟩
 refine go_bslice Tk rfl rfl rfl rfl rfl rfl rfl rfl (fun _ _ => satA) ?_
 intro u7
 refine go_lit tFa (b := u7) [(⟨3, [11]⟩ : Fa)] (by repeat constructor) (fun hp a => ⟨[_, _], [], rfl, tFa_mk (x := (⟨3, [11]⟩ : Fa)) (a (sl tU _ _ [11]) (by repeat constructor)), rfl⟩) (by simp) ?_
 refine go_call (relOf (some ⟨u7, 0, none⟩) 1 [(⟨3, [11]⟩ : Fa)] (by simp) (by intro x hx; simp only [List.mem_cons, List.not_mem_nil, or_false] at hx; first | (rcases hx with rfl | rfl <;> simp) | (subst hx; simp))) rfl rfl (by rfl) rfl (by repeat constructor) (by repeat constructor) (fun _ v Ps' Os' hq => by obtain ⟨by_, rfl, rfl, rfl⟩ := hq; exact satS (by repeat constructor) (by repeat constructor)) ?_
 rintro _ _ _ ⟨by_, rfl, rfl, rfl⟩
 refine go_freeze_rel (b := by_) (by repeat constructor) ?_
 refine go_ent (relN (some ⟨by_, 0, none⟩) (fof [(⟨3, [11]⟩ : Fa)])) (fun hh hps => relN_some (hps (relP by_ (fof [(⟨3, [11]⟩ : Fa)])) (by repeat constructor))) ?_
 refine go_call (joinHeadsAll wc13 (some ⟨u1, 0, none⟩) 1 (some ⟨u5, 0, none⟩) 2 (some ⟨bx, 0, none⟩) (some ⟨by_, 0, none⟩) (fof [(⟨2, [10, 11]⟩ : Fa), (⟨2, [12, 13]⟩ : Fa)]) (fof [(⟨3, [11]⟩ : Fa)]) (js_small (R := []) wf_two (by simp) (by simp) (by simp)) wc13_ok (wj_1 (fof_len [(⟨2, [10, 11]⟩ : Fa), (⟨2, [12, 13]⟩ : Fa)])).1) rfl rfl (by rfl) rfl (by repeat constructor) (by repeat constructor) (fun h => nomatch h) ?_
 rintro _ _ _ ⟨A1, k1, rfl, rfl, rfl⟩
 rw [wh_1]
 refine go_freeze_dl (T := tFa) (A := A1) (xs := [(⟨1, [12]⟩ : Fa)]) (by repeat constructor) ?_
 refine go_pure1 Tk rfl rfl rfl ?_
 refine go_nil ?_
 refine go_env [(1, _), (2, _), (3, _)] ⟨rfl, rfl, rfl, trivial⟩ ?_
 refine go_seq ?_
 refine go_draw ([cl bC 0 [.int .u32 wc13.h.p, .slice (some ⟨u1, 0, none⟩) wc13.h.a.length 1, .slice (some ⟨u5, 0, none⟩) wc13.b.length 2]]) ([]) [0] (SL.pre [(1, 1), (2, 0), (0, 2), (0, 3), (0, 4), (0, 5), (0, 6), (1, 7)] .nil) mixed rfl (by kernel_rfl) ?_
 refine go_pure1 Tk rfl rfl rfl ?_
 refine go_val2a rfl (ldv Tk rfl rfl rfl) rfl ?_
 refine go_bslice Tk rfl rfl rfl rfl rfl rfl rfl rfl (fun _ _ => satA) ?_
 intro b4
 refine go_lit_int (kk := .u32) [10, 11] (by repeat constructor) (by simp) ?_
 refine go_call (law13F 2 _ 2 2) rfl rfl (by rfl) rfl (by repeat constructor) (by repeat constructor) (fun _ v Ps' Os' hq => by obtain ⟨rfl, rfl, rfl⟩ := hq; exact satS (by repeat constructor) (by repeat constructor)) ?_
 rintro _ _ _ ⟨rfl, rfl, rfl⟩
 refine go_bslice Tk rfl rfl rfl rfl rfl rfl rfl rfl (fun _ _ => satA) ?_
 intro u8
 refine go_lit tFa (b := u8) [(⟨2, [10, 11]⟩ : Fa)] (by repeat constructor) (fun hp a => ⟨[_, _], [], rfl, tFa_mk (x := (⟨2, [10, 11]⟩ : Fa)) (a (sl tU _ _ [10, 11]) (by repeat constructor)), rfl⟩) (by simp) ?_
 refine go_call (relOf (some ⟨u8, 0, none⟩) 1 [(⟨2, [10, 11]⟩ : Fa)] (by simp) (by intro x hx; simp only [List.mem_cons, List.not_mem_nil, or_false] at hx; first | (rcases hx with rfl | rfl <;> simp) | (subst hx; simp))) rfl rfl (by rfl) rfl (by repeat constructor) (by repeat constructor) (fun _ v Ps' Os' hq => by obtain ⟨bw, rfl, rfl, rfl⟩ := hq; exact satS (by repeat constructor) (by repeat constructor)) ?_
 rintro _ _ _ ⟨bw, rfl, rfl, rfl⟩
 refine go_freeze_rel (b := bw) (by repeat constructor) ?_
 refine go_ent (relN (some ⟨bw, 0, none⟩) (fof [(⟨2, [10, 11]⟩ : Fa)])) (fun hh hps => relN_some (hps (relP bw (fof [(⟨2, [10, 11]⟩ : Fa)])) (by repeat constructor))) ?_
 refine go_ent (relN none []) (fun _ _ => relN_nil) ?_
 refine go_call (joinNews wc13 (some ⟨u1, 0, none⟩) 1 (some ⟨u5, 0, none⟩) 2 (some ⟨bx, 0, none⟩) (some ⟨bw, 0, none⟩) none (fof [(⟨2, [10, 11]⟩ : Fa), (⟨2, [12, 13]⟩ : Fa)]) (fof [(⟨2, [10, 11]⟩ : Fa)]) [] (js_small (N := []) wf_two (by simp) (by simp) (by simp)) wc13_ok (wj_1 (fof_len [(⟨2, [10, 11]⟩ : Fa), (⟨2, [12, 13]⟩ : Fa)])).2) rfl rfl (by rfl) rfl (by repeat constructor) (by repeat constructor) (fun h => nomatch h) ?_
 rintro _ _ _ ⟨A2, k2, rfl, rfl, rfl⟩
 rw [wh_2]
 refine go_freeze_dl (T := tFa) (A := A2) (xs := [(⟨1, [10]⟩ : Fa)]) (by repeat constructor) ?_
 refine go_pure1 Tk rfl rfl rfl ?_
 refine go_nil ?_
 refine go_env [(3, _), (4, _)] ⟨rfl, rfl, trivial⟩ ?_
 refine go_seq ?_
 refine go_region rfl ?_
 refine go_pure0 Tk rfl rfl rfl ?_
 refine go_pure0 Tk rfl rfl rfl ?_
 refine go_pure0 Tk rfl rfl rfl ?_
 refine go_re 39 (.bool true) (by show some (Value.bool _) = _; first | rfl | simp) ?_
 refine go_pure0 Tk rfl rfl rfl ?_
 refine go_pure0 Tk rfl rfl rfl ?_
 refine go_bslice Tk rfl rfl rfl rfl rfl rfl rfl rfl (fun h => nomatch h) ?_
 intro b5
 refine go_lit_int (kk := .u32) [12] (by repeat constructor) (by simp) ?_
 refine go_call (law13F 1 _ 1 1) rfl rfl (by rfl) rfl (by repeat constructor) (by repeat constructor) (fun h => nomatch h) ?_
 rintro _ _ _ ⟨rfl, rfl, rfl⟩
 refine go_bslice Tk rfl rfl rfl rfl rfl rfl rfl rfl (fun h => nomatch h) ?_
 intro u9
 refine go_lit tFa (b := u9) [(⟨1, [12]⟩ : Fa)] (by repeat constructor) (fun hp a => ⟨[_, _], [], rfl, tFa_mk (x := (⟨1, [12]⟩ : Fa)) (a (sl tU _ _ [12]) (by repeat constructor)), rfl⟩) (by simp) ?_
 refine go_call (ref13Same A1 k1 [(⟨1, [12]⟩ : Fa)] (some ⟨u9, 0, none⟩) 1 [(⟨1, [12]⟩ : Fa)]) rfl rfl (by rfl) rfl (by repeat constructor) (by repeat constructor) (fun h => nomatch h) ?_
 rintro _ _ _ ⟨rfl, rfl, rfl⟩
 refine go_re 45 (.bool true) (by show some (Value.bool _) = _; first | rfl | simp) ?_
 refine go_pure0 Tk rfl rfl rfl ?_
 refine go_pure0 Tk rfl rfl rfl ?_
 refine go_pure0 Tk rfl rfl rfl ?_
 refine go_bslice Tk rfl rfl rfl rfl rfl rfl rfl rfl (fun h => nomatch h) ?_
 intro b6
 refine go_lit_int (kk := .u32) [10] (by repeat constructor) (by simp) ?_
 refine go_call (law13F 1 _ 1 1) rfl rfl (by rfl) rfl (by repeat constructor) (by repeat constructor) (fun h => nomatch h) ?_
 rintro _ _ _ ⟨rfl, rfl, rfl⟩
 refine go_bslice Tk rfl rfl rfl rfl rfl rfl rfl rfl (fun h => nomatch h) ?_
 intro u0
 refine go_lit tFa (b := u0) [(⟨1, [10]⟩ : Fa)] (by repeat constructor) (fun hp a => ⟨[_, _], [], rfl, tFa_mk (x := (⟨1, [10]⟩ : Fa)) (a (sl tU _ _ [10]) (by repeat constructor)), rfl⟩) (by simp) ?_
 refine go_call (ref13Same A2 k2 [(⟨1, [10]⟩ : Fa)] (some ⟨u0, 0, none⟩) 1 [(⟨1, [10]⟩ : Fa)]) rfl rfl (by rfl) rfl (by repeat constructor) (by repeat constructor) (fun h => nomatch h) ?_
 rintro _ _ _ ⟨rfl, rfl, rfl⟩
 refine go_re 52 (.bool true) (by show some (Value.bool _) = _; first | rfl | simp) ?_
 refine go_pure0 Tk rfl rfl rfl ?_
 refine go_pure0 Tk rfl rfl rfl ?_
 refine go_nil ?_
 refine go_env [(0, _)] ⟨rfl, trivial⟩ ?_
 refine go_ret ⟨rfl, rfl⟩ _ _ (res1 (by rfl) (.tmp rfl)) ⟨rfl, rfl, rfl⟩ (by repeat constructor) (by repeat constructor)

end Go.Proofs.YtkhddfknpegpmaaGreat.SL

/- Contracts of functions of the program (Law13c): what each call comes to, for the laws' proofs. -/
set_option linter.unusedVariables false
set_option linter.unusedSimpArgs false
namespace Go.Proofs.YtkhddfknpegpmaaGreat.SL
open Go 

theorem small_pow' {c : Cl} {n : Nat} (h : smallC c n = true) {F : List Fa} (hF : F.length ≤ n) : F.length ^ (c.b.filter fun l => !l.no).length ≤ 16777216 := by
  unfold smallC at h
  rw [decide_eq_true_eq] at h
  show F.length ^ (pos c.b) ≤ _
  rcases h.2 with ⟨h1, h2⟩ | ⟨h1, h2⟩
  · exact Nat.le_trans (Nat.pow_le_pow_left (show F.length ≤ 60 by omega) _) (Nat.le_trans (Nat.pow_le_pow_right (by omega) h1) (by decide))
  · exact Nat.le_trans (Nat.pow_le_pow_left (show F.length ≤ 8 by omega) _) (Nat.le_trans (Nat.pow_le_pow_right (by omega) h1) (by decide))
theorem small_pow {c : Cl} {n : Nat} (h : smallC c n = true) {F R N : List Fa} (hF : F.length ≤ n) (new : Bool) : (goL c F R N c.b ch0 new).length ≤ 16777216 := Nat.le_trans (goL_len c F R N c.b ch0 new) (small_pow' h hF)
theorem headsC_len {c : Cl} {F R N : List Fa} {some : Bool} {n : Nat} (h : (goL c F R N c.b ch0 (!some)).length ≤ n) : (headsC c F R N some).length ≤ n := by
  unfold headsC
  split
  · exact Nat.le_trans (fof_len _) h
  · simp
theorem few13_all {c : Cl} {a b d : List Fa} (f : few13P c a b d) (ga : ∀ x ∈ a, x.ok) (gb : ∀ x ∈ b, x.ok) (gd : ∀ x ∈ d, x.ok) : ∀ x ∈ a ++ b ++ d, x.ok ∧ x.a.length ≤ 30 := fun x hx => by
  refine ⟨?_, (few11_of f.2.2.2).2.2 x hx⟩
  rcases List.mem_append.1 hx with hx | hx
  · exact (List.mem_append.1 hx).elim (ga x) (gb x)
  · exact gd x hx


end Go.Proofs.YtkhddfknpegpmaaGreat.SL
