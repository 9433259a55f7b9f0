/- Engine, data and contracts: parts of the proof, put together (Joina Joinb Joinc Joind Joine Joinf). -/
import Derived.Test.YtkhddfknpegpmaaGreatME
import Derived.Test.YtkhddfknpegpmaaGreatMC
import Derived.Test.YtkhddfknpegpmaaGreatMD
/- Contracts of functions of the program (Joina): what each call comes to, for the laws' proofs. -/
set_option linter.unusedVariables false
set_option linter.unusedSimpArgs false
namespace Go.Proofs.YtkhddfknpegpmaaGreat.SL
open Go 

set_option maxHeartbeats 2000000 in
set_option maxRecDepth 20000 in
theorem atomsOf (a : Am) (AA : Option Addr) (ac : Nat) (hn : a.a.length ≤ 1000000) :
    Spec Tryz.prog 66 #[.agg #[.int .u32 a.p, .slice AA a.a.length ac]] [sl tTm AA ac a.a] [] (fun v Ps' Os' => ∃ A c, v = .tuple #[.agg #[.int .u32 (ofA a).p, .slice A (ofA a).a.length c], .bool (ground a)] ∧ Ps' = [sl tU A c (ofA a).a] ∧ Os' = []) := by
 refine spec_of (fn := Tryz.f66) (args := [.agg #[.int .u32 a.p, .slice AA a.a.length ac]]) 29 Tryz.func66 rfl (by kernel_rfl) Tryz.ntmps66 (Nat.le_of_ble_eq_true rfl) (fun w0 hp0 hf0 => ?_)
 refine go_seq ?_
 refine go_region rfl ?_
 refine go_box Tk rfl rfl rfl rfl (by rfl) rfl rfl (fun h => nomatch h) ?_
 intro b0
 refine go_freeze_pt (b := b0) (by repeat constructor) ?_
 refine go_alloc Tk rfl rfl rfl (by rfl) rfl rfl (fun h => nomatch h) ?_
 intro bF
 refine go_pure0 Tk rfl rfl rfl ?_
 refine go_nil ?_
 refine go_env [(1, _), (2, _)] ⟨rfl, rfl, trivial⟩ ?_
 refine go_seq ?_
 refine go_seq ?_
 refine go_region rfl ?_
 refine go_val0 rfl (ldv Tk rfl rfl rfl) rfl ?_
 refine go_call (groundA a AA ac) rfl rfl (by rfl) rfl (by repeat constructor) (by repeat constructor) (fun h => nomatch h) ?_
 rintro _ _ _ ⟨rfl, rfl, rfl⟩
 refine go_pure0 Tk rfl rfl rfl ?_
 refine go_nil ?_
 refine go_env [(1, _), (2, _), (8, _)] ⟨rfl, rfl, rfl, trivial⟩ ?_
 refine go_cond rfl ?_ ?_
 ·intro g1
  (try simp only [decide_eq_true_eq, decide_eq_false_iff_not, Bool.not_eq_true', Bool.not_eq_false', Bool.not_eq_eq_eq_not, Bool.not_true, Bool.not_false, Int.not_lt, Int.not_le, beq_iff_eq, beq_eq_false_iff_ne, ne_eq] at g1)
  refine go_own_nil tU 22 none ?_
  refine go_freeze_ol (xs := []) (by repeat constructor) ?_
  have hof : ofA a = ⟨0, []⟩ := by unfold ofA; rw [g1]; rfl
  refine go_seq ?_
  refine go_region rfl ?_
  refine go_val0 rfl (ldv Tk rfl rfl rfl) rfl ?_
  refine go_store Tk rfl rfl rfl rfl rfl rfl (by repeat constructor) rfl rfl (by rfl) (fun h => nomatch h) ?_
  refine go_pure0 Tk rfl rfl rfl ?_
  refine go_nil ?_
  refine go_env [(2, _), (3, _)] ⟨rfl, rfl, trivial⟩ ?_
  refine go_ret ⟨rfl, rfl⟩ _ _ (res2 (by rfl) (.cell rfl (rdv Tk rfl)) (.tmp rfl)) ⟨none, 0, by rw [hof, g1]; rfl, by rw [hof], rfl⟩ (by repeat constructor) (by repeat constructor)
 ·intro g1
  (try simp only [decide_eq_true_eq, decide_eq_false_iff_not, Bool.not_eq_true', Bool.not_eq_false', Bool.not_eq_eq_eq_not, Bool.not_true, Bool.not_false, Int.not_lt, Int.not_le, beq_iff_eq, beq_eq_false_iff_ne, ne_eq] at g1)
  have hof : ofA a = ⟨a.p, a.a.map (·.n)⟩ := by unfold ofA; rw [if_pos g1]
  refine go_skip ?_
  refine go_seq ?_
  refine go_region rfl ?_
  refine go_pure0 Tk rfl rfl rfl ?_
  refine go_val0 rfl (ldv Tk rfl rfl rfl) rfl ?_
  refine go_pure0 Tk rfl rfl rfl ?_
  refine go_store Tk rfl rfl rfl rfl rfl rfl (by repeat constructor) rfl rfl (by rfl) (fun h => nomatch h) ?_
  refine go_nil ?_
  refine go_env [(1, _), (2, _)] ⟨rfl, rfl, trivial⟩ ?_
  refine go_seq ?_
  refine go_seq ?_
  refine go_len (xs := a.a) (by repeat constructor) (fun l0 m0 => ?_)
  refine go_own_nil tU 22 none ?_
  rw [show ([] : List Int) = (a.a.take 0).map fun t => t.n from rfl]
  refine go_region rfl ?_
  refine go_pure0 Tk rfl rfl rfl ?_
  refine go_val0 rfl (ldv Tk rfl rfl rfl) rfl ?_
  refine go_pure0 Tk rfl rfl rfl ?_
  refine go_pure0 Tk rfl rfl rfl ?_
  refine go_nil ?_
  refine go_env [(2, _), (14, _), (15, _), (16, _)] ⟨rfl, rfl, rfl, rfl, trivial⟩ ?_
  refine go_block ?_
  refine go_loop' (X := Nat × Option Addr × Nat) (fun x => [(16, .int .i64 (x.1 : Int))]) [(2, _), (14, _), (15, _)] (fun x => [pt bF 52 [.int .u32 a.p, .slice x.2.1 ((a.a.take x.1).map fun t => t.n).length x.2.2], ol tU 22 x.2.1 x.2.2 ((a.a.take x.1).map fun t => t.n)]) (fun x => x.1 ≤ a.a.length) (fun x => a.a.length - x.1) ((0, none, 0)) ⟨rfl, rfl, rfl, rfl, trivial⟩ (by repeat constructor) (by omega) ?_
  intro ⟨k, A1, c1⟩ hk
  simp only at hk ⊢
  have hkl : ((a.a.take k).map fun t => t.n).length = k := by simp; omega
  refine go_seq ?_
  refine go_region rfl ?_
  refine go_pure0 Tk rfl rfl rfl ?_
  refine go_nil ?_
  refine go_env [(2, _), (14, _), (15, _), (16, _), (17, _)] ⟨rfl, rfl, rfl, rfl, rfl, trivial⟩ ?_
  refine go_seq ?_
  refine go_condD rfl ?_ ?_
  ·intro hq1
   refine go_skip ?_
   refine go_seq ?_
   refine go_block ?_
   refine go_seq ?_
   refine go_elem_tm (xs := a.a) (by repeat constructor) (k) (List.getElem?_eq_getElem (by omega)) (fun b1 o1 hA => ?_); cases hA
   refine go_region rfl ?_
   refine go_val0 rfl (idx_val Tk rfl rfl rfl rfl rfl (by omega)) rfl ?_
   refine go_val0 rfl (ldv Tk rfl rfl rfl) rfl ?_
   refine go_alloc Tk rfl rfl rfl (by rfl) rfl rfl (fun h => nomatch h) ?_
   intro b1
   refine go_store Tk rfl rfl rfl rfl rfl rfl (by repeat constructor) rfl rfl (by rfl) (fun h => nomatch h) ?_
   refine go_nil ?_
   refine go_env [(2, _), (5, _), (14, _), (15, _), (16, _)] ⟨rfl, rfl, rfl, rfl, rfl, trivial⟩ ?_
   refine go_region rfl ?_
   refine go_pure0 Tk rfl rfl rfl ?_
   refine go_val0 rfl (ldv Tk rfl rfl rfl) rfl ?_
   refine go_pure0 Tk rfl rfl rfl ?_
   refine go_val0 rfl (ldv Tk rfl rfl rfl) rfl ?_
   refine go_bslice Tk rfl rfl rfl rfl rfl rfl rfl rfl (fun h => nomatch h) ?_
   intro b2
   refine go_append1 (T := tU) (xs := ((a.a.take k).map fun t => t.n)) Tk (a.a[k].n) rfl rfl rfl rfl rfl rfl rfl rfl rfl (by repeat constructor) (by repeat constructor) rfl ent_int (by omega) (by first | exact (fun _ _ _ => satA) | exact (fun h => nomatch h) | exact (fun h => nomatch (Eq.symm h).trans (show _ = false by kernel_rfl))) ?_
   intro A3 c3
   refine go_pure0 Tk rfl rfl rfl ?_
   refine go_store Tk rfl rfl rfl rfl rfl rfl (by repeat constructor) rfl rfl (by rfl) (fun h => nomatch h) ?_
   refine go_nil ?_
   refine go_env [(2, _), (14, _), (15, _), (16, _)] ⟨rfl, rfl, rfl, rfl, trivial⟩ ?_
   refine go_blk ?_
   refine go_region rfl ?_
   refine go_pure0 Tk rfl rfl rfl ?_
   refine go_pure0 Tk rfl rfl rfl ?_
   refine go_nil ?_
   refine go_i64 16 rfl (by omega) (by omega) ?_
   rw [show ((a.a.take k).map fun t => t.n) ++ [a.a[k].n] = (a.a.take (k + 1)).map fun t => t.n from by rw [List.take_succ_eq_append_getElem (by omega), List.map_append]; rfl]
   refine go_back (k + 1, A3, c3) ⟨rfl, rfl, rfl, rfl, trivial⟩ (by repeat constructor) (by repeat constructor) (by show k + 1 ≤ _; omega) (by show a.a.length - (k + 1) < a.a.length - k; omega)
  ·intro hq1
   refine go_exit rfl ?_
   refine go_seq ?_
   have htk : a.a.take k = a.a := List.take_of_length_le (by omega)
   rw [htk]
   refine go_freeze_ol (xs := a.a.map fun t => t.n) (by repeat constructor) ?_
   refine go_region rfl ?_
   refine go_val0 rfl (ldv Tk rfl rfl rfl) rfl ?_
   refine go_store Tk rfl rfl rfl rfl rfl rfl (by repeat constructor) rfl rfl (by rfl) (fun h => nomatch h) ?_
   refine go_pure0 Tk rfl rfl rfl ?_
   refine go_nil ?_
   refine go_env [(2, _), (3, _)] ⟨rfl, rfl, trivial⟩ ?_
   refine go_ret ⟨rfl, rfl⟩ _ _ (res2 (by rfl) (.cell rfl (rdv Tk rfl)) (.tmp rfl)) ⟨A1, c1, by rw [hof, g1], by rw [hof], rfl⟩ (by repeat constructor) (by repeat constructor)

end Go.Proofs.YtkhddfknpegpmaaGreat.SL

/- Contracts of functions of the program (Joinb): what each call comes to, for the laws' proofs. -/
set_option linter.unusedVariables false
set_option linter.unusedSimpArgs false
namespace Go.Proofs.YtkhddfknpegpmaaGreat.SL
open Go 

theorem at_cl1 {Ps : List PA} {Os : List OA} {b oo : Nat} {cs0 : List Value} {v : Value} (h : cl b 0 cs0 ∈ Ps) (k : Nat) (ho : oo = 0 + k) (h3 : cs0[k]? = some v) : At Ps Os b oo 1 [v] := by
  subst ho
  obtain ⟨h4, h5⟩ := List.getElem?_eq_some_iff.1 h3
  exact at_cl k h (by rw [dropL_eq, List.drop_eq_getElem_cons h4, h5]; rfl)

set_option maxHeartbeats 2000000 in
set_option maxRecDepth 20000 in
theorem choicePut (bC : Nat) (few : List Int) (is : List Bool) (hf : few.length = 16) (hi : is.length = 16) (a : Am) (AA : Option Addr) (ac : Nat) (hn : a.a.length ≤ 1000000) (hv : ∀ t ∈ a.a, t.v = true → 0 ≤ t.n ∧ t.n < 16) :
    Spec Tryz.prog 49 #[.pointer (some ⟨bC, 0, none⟩), .agg #[.int .u32 a.p, .slice AA a.a.length ac]] [cl bC 0 (hc few is []), sl tTm AA ac a.a] [] (fun v Ps' Os' => ∃ A c, v = .agg #[.int .u32 a.p, .slice A (putA few is a).a.length c] ∧ Ps' = [sl tTm A c (putA few is a).a] ∧ Os' = []) := by
 refine spec_of (fn := Tryz.f49) (args := [.pointer (some ⟨bC, 0, none⟩), .agg #[.int .u32 a.p, .slice AA a.a.length ac]]) 45 Tryz.func49 rfl (by kernel_rfl) Tryz.ntmps49 (Nat.le_of_ble_eq_true rfl) (fun w0 hp0 hf0 => ?_)
 refine go_seq ?_
 refine go_region rfl ?_
 refine go_box Tk rfl rfl rfl rfl (by rfl) rfl rfl (fun h => nomatch h) ?_
 intro b0
 refine go_freeze_pt (b := b0) (by repeat constructor) ?_
 refine go_alloc Tk rfl rfl rfl (by rfl) rfl rfl (fun h => nomatch h) ?_
 intro bR
 refine go_nil ?_
 refine go_env [(0, _), (3, _), (4, _)] ⟨rfl, rfl, rfl, trivial⟩ ?_
 refine go_seq ?_
 refine go_region rfl ?_
 refine go_pure0 Tk rfl rfl rfl ?_
 refine go_val0 rfl (ldv Tk rfl rfl rfl) rfl ?_
 refine go_val0 rfl (fun a w hp ho hf hs => build_val Tk rfl rfl rfl (by rfl) a w hf) rfl ?_
 refine go_alloc Tk rfl rfl rfl (by rfl) rfl rfl (fun h => nomatch h) ?_
 intro bO
 refine go_store Tk rfl rfl rfl rfl rfl rfl (by repeat constructor) rfl rfl (by rfl) (fun h => nomatch h) ?_
 refine go_nil ?_
 refine go_env [(0, _), (3, _), (4, _), (5, _)] ⟨rfl, rfl, rfl, rfl, trivial⟩ ?_
 refine go_seq ?_
 refine go_seq ?_
 refine go_len (xs := a.a) (by repeat constructor) (fun l0 m0 => ?_)
 refine go_own_nil tTm 58 none ?_
 rw [show ([] : List Tm) = (a.a.take 0).map (putT few is) from rfl]
 refine go_region rfl ?_
 refine go_pure0 Tk rfl rfl rfl ?_
 refine go_val0 rfl (ldv Tk rfl rfl rfl) rfl ?_
 refine go_pure0 Tk rfl rfl rfl ?_
 refine go_pure0 Tk rfl rfl rfl ?_
 refine go_nil ?_
 refine go_env [(0, _), (4, _), (5, _), (12, _), (13, _), (14, _)] ⟨rfl, rfl, rfl, rfl, rfl, rfl, trivial⟩ ?_
 refine go_block ?_
 refine go_loop' (X := Nat × Option Addr × Nat) (fun x => [(14, .int .i64 (x.1 : Int))]) [(0, _), (4, _), (5, _), (12, _), (13, _)] (fun x => [pt bO 25 [.int .u32 a.p, .slice x.2.1 ((a.a.take x.1).map (putT few is)).length x.2.2], ol tTm 58 x.2.1 x.2.2 ((a.a.take x.1).map (putT few is))]) (fun x => x.1 ≤ a.a.length) (fun x => a.a.length - x.1) ((0, none, 0)) ⟨rfl, rfl, rfl, rfl, rfl, rfl, trivial⟩ (by repeat constructor) (by omega) ?_
 intro ⟨k, A1, c1⟩ hk
 simp only at hk ⊢
 have hkl : ((a.a.take k).map (putT few is)).length = k := by simp; omega
 refine go_seq ?_
 refine go_region rfl ?_
 refine go_pure0 Tk rfl rfl rfl ?_
 refine go_nil ?_
 refine go_env [(0, _), (4, _), (5, _), (12, _), (13, _), (14, _), (15, _)] ⟨rfl, rfl, rfl, rfl, rfl, rfl, rfl, trivial⟩ ?_
 refine go_seq ?_
 refine go_condD rfl ?_ ?_
 ·intro hq1
  refine go_skip ?_
  refine go_seq ?_
  refine go_block ?_
  refine go_seq ?_
  refine go_elem_tm (xs := a.a) (by repeat constructor) (k) (List.getElem?_eq_getElem (by omega)) (fun b1 o1 hA => ?_); cases hA
  refine go_region rfl ?_
  refine go_val0 rfl (idx_val Tk rfl rfl rfl rfl rfl (by omega)) rfl ?_
  refine go_val0 rfl (ldv Tk rfl rfl rfl) rfl ?_
  refine go_alloc Tk rfl rfl rfl (by rfl) rfl rfl (fun h => nomatch h) ?_
  intro bT
  refine go_store Tk rfl rfl rfl rfl rfl rfl (by repeat constructor) rfl rfl (by rfl) (fun h => nomatch h) ?_
  refine go_nil ?_
  refine go_env [(0, _), (4, _), (5, _), (7, _), (12, _), (13, _), (14, _)] ⟨rfl, rfl, rfl, rfl, rfl, rfl, rfl, trivial⟩ ?_
  refine go_seq ?_
  refine go_seq ?_
  refine go_draw'  [1, 5, 9] (SL.pre [(1, 0), (2, 1), (1, 2), (1, 3), (1, 4), (1, 6), (1, 7), (2, 5), (1, 8), (2, 9), (1, 10)] .nil) mixed rfl (by kernel_rfl) ?_
  refine go_pure1 Tk rfl rfl rfl ?_
  refine go_val2a rfl (ldv Tk rfl rfl rfl) rfl ?_
  refine go_pure1 Tk rfl rfl rfl ?_
  refine go_known 20 rfl ?_ ?_
  ·intro g1
   (try simp only [decide_eq_true_eq, decide_eq_false_iff_not, Bool.not_eq_true', Bool.not_eq_false', Bool.not_eq_eq_eq_not, Bool.not_true, Bool.not_false, Int.not_lt, Int.not_le, beq_iff_eq, beq_eq_false_iff_ne, ne_eq] at g1)
   obtain ⟨j, hj, hj16⟩ : ∃ j : Nat, a.a[k].n = (j : Int) ∧ j < 16 := ⟨a.a[k].n.toNat, by have := hv _ (List.getElem_mem _) g1; omega, by have := hv _ (List.getElem_mem _) g1; omega⟩
   refine go_pure1 Tk rfl rfl rfl ?_
   refine go_pure1 Tk rfl rfl rfl ?_
   refine go_pure1 Tk rfl rfl rfl ?_
   refine go_pure1 Tk rfl rfl rfl ?_
   refine go_val2a rfl (ldv Tk rfl rfl rfl) rfl ?_
   refine go_re 23 (.int .u32 (j : Int)) (by show some (Value.int _ _) = _; rw [hj]) ?_
   refine go_val1 rfl (idxA_val Tk rfl rfl rfl rfl rfl (by omega)) rfl ?_
   refine go_val2a rfl (load_val (cs := [.bool is[j]]) Tk rfl rfl rfl (at_cl1 (by repeat constructor) (few.length + j) (by show 0 + 16 + j * 1 = _; omega) (hc_is (by omega) rfl)) rfl) rfl ?_
   refine go_pure1 Tk rfl rfl rfl ?_
   refine go_nil ?_
   refine go_env [(0, _), (4, _), (5, _), (7, _), (12, _), (13, _), (14, _), (21, _), (22, _), (23, _), (24, _), (25, _), (26, _), (27, _), (28, _)] ⟨rfl, rfl, rfl, rfl, rfl, rfl, rfl, rfl, rfl, rfl, rfl, rfl, rfl, rfl, rfl, trivial⟩ ?_
   refine go_cond rfl ?_ ?_
   ·intro g2
    (try simp only [decide_eq_true_eq, decide_eq_false_iff_not, Bool.not_eq_true', Bool.not_eq_false', Bool.not_eq_eq_eq_not, Bool.not_true, Bool.not_false, Int.not_lt, Int.not_le, beq_iff_eq, beq_eq_false_iff_ne, ne_eq] at g2)
    refine go_draw'  [2, 6] (SL.pre [(1, 0), (1, 1), (1, 3), (1, 4), (2, 2), (1, 5), (2, 6), (1, 7), (0, 8)] .nil) mixed rfl (by kernel_rfl) ?_
    refine go_pure1 Tk rfl rfl rfl ?_
    refine go_pure1 Tk rfl rfl rfl ?_
    refine go_pure1 Tk rfl rfl rfl ?_
    refine go_pure1 Tk rfl rfl rfl ?_
    refine go_val2a rfl (ldv Tk rfl rfl rfl) rfl ?_
    refine go_re 31 (.int .u32 (j : Int)) (by show some (Value.int _ _) = _; rw [hj]) ?_
    refine go_val1 rfl (idxA_val Tk rfl rfl rfl rfl rfl (by omega)) rfl ?_
    refine go_val2a rfl (load_val (cs := [.int .u32 few[j]]) Tk rfl rfl rfl (at_cl1 (by repeat constructor) j (by show 0 + 0 + j * 1 = _; omega) (hc_few (by omega) rfl)) rfl) rfl ?_
    refine go_val1 rfl (fun a w hp ho hf hs => build_val Tk rfl rfl rfl (by rfl) a w hf) rfl ?_
    refine go_store Tk rfl rfl rfl rfl rfl rfl (by repeat constructor) rfl rfl (by rfl) (fun h => nomatch h) ?_
    refine go_nil ?_
    refine go_env [(0, _), (4, _), (5, _), (7, _), (12, _), (13, _), (14, _), (21, _), (22, _), (23, _), (24, _), (25, _), (26, _), (27, _)] ⟨rfl, rfl, rfl, rfl, rfl, rfl, rfl, rfl, rfl, rfl, rfl, rfl, rfl, rfl, trivial⟩ ?_
    refine go_region rfl ?_
    refine go_pure0 Tk rfl rfl rfl ?_
    refine go_val0 rfl (ldv Tk rfl rfl rfl) rfl ?_
    refine go_val0 rfl (ldv Tk rfl rfl rfl) rfl ?_
    refine go_bslice Tk rfl rfl rfl rfl rfl rfl rfl rfl (fun h => nomatch h) ?_
    intro b1
    refine go_append1 (T := tTm) (xs := ((a.a.take k).map (putT few is))) Tk ((⟨false, few[j]⟩ : Tm)) rfl rfl rfl rfl rfl rfl rfl rfl rfl (by repeat constructor) (by repeat constructor) rfl ent_tm (by omega) (by first | exact (fun _ _ _ => satA) | exact (fun h => nomatch h) | exact (fun h => nomatch (Eq.symm h).trans (show _ = false by kernel_rfl))) ?_
    intro A3 c3
    refine go_pure0 Tk rfl rfl rfl ?_
    refine go_store Tk rfl rfl rfl rfl rfl rfl (by repeat constructor) rfl rfl (by rfl) (fun h => nomatch h) ?_
    refine go_nil ?_
    refine go_env [(0, _), (4, _), (5, _), (12, _), (13, _), (14, _), (21, _), (22, _), (23, _), (24, _), (25, _), (26, _), (27, _)] ⟨rfl, rfl, rfl, rfl, rfl, rfl, rfl, rfl, rfl, rfl, rfl, rfl, rfl, trivial⟩ ?_
    refine go_blk ?_
    refine go_region rfl ?_
    refine go_pure0 Tk rfl rfl rfl ?_
    refine go_pure0 Tk rfl rfl rfl ?_
    refine go_nil ?_
    refine go_i64 14 rfl (by omega) (by omega) ?_
    have hpt := putT_yes (few := few) (is := is) g1 (by omega) (by omega) hj g2
    rw [show ((a.a.take k).map (putT few is)) ++ [_] = (a.a.take (k + 1)).map (putT few is) from by rw [List.take_succ_eq_append_getElem (by omega), List.map_append, List.map_cons, hpt]; rfl]
    refine go_back (k + 1, A3, c3) ⟨rfl, rfl, rfl, rfl, rfl, rfl, trivial⟩ (by repeat constructor) (by repeat constructor) (by show k + 1 ≤ _; omega) (by show a.a.length - (k + 1) < a.a.length - k; omega)
   ·intro g2
    (try simp only [decide_eq_true_eq, decide_eq_false_iff_not, Bool.not_eq_true', Bool.not_eq_false', Bool.not_eq_eq_eq_not, Bool.not_true, Bool.not_false, Int.not_lt, Int.not_le, beq_iff_eq, beq_eq_false_iff_ne, ne_eq] at g2)
    refine go_skip ?_
    refine go_region rfl ?_
    refine go_pure0 Tk rfl rfl rfl ?_
    refine go_val0 rfl (ldv Tk rfl rfl rfl) rfl ?_
    refine go_val0 rfl (ldv Tk rfl rfl rfl) rfl ?_
    refine go_bslice Tk rfl rfl rfl rfl rfl rfl rfl rfl (fun h => nomatch h) ?_
    intro b2
    refine go_append1 (T := tTm) (xs := ((a.a.take k).map (putT few is))) Tk (a.a[k]) rfl rfl rfl rfl rfl rfl rfl rfl rfl (by repeat constructor) (by repeat constructor) rfl ent_tm (by omega) (by first | exact (fun _ _ _ => satA) | exact (fun h => nomatch h) | exact (fun h => nomatch (Eq.symm h).trans (show _ = false by kernel_rfl))) ?_
    intro A3 c3
    refine go_pure0 Tk rfl rfl rfl ?_
    refine go_store Tk rfl rfl rfl rfl rfl rfl (by repeat constructor) rfl rfl (by rfl) (fun h => nomatch h) ?_
    refine go_nil ?_
    refine go_env [(0, _), (4, _), (5, _), (12, _), (13, _), (14, _), (21, _), (22, _), (23, _), (24, _), (25, _), (26, _), (27, _)] ⟨rfl, rfl, rfl, rfl, rfl, rfl, rfl, rfl, rfl, rfl, rfl, rfl, rfl, trivial⟩ ?_
    refine go_blk ?_
    refine go_region rfl ?_
    refine go_pure0 Tk rfl rfl rfl ?_
    refine go_pure0 Tk rfl rfl rfl ?_
    refine go_nil ?_
    refine go_i64 14 rfl (by omega) (by omega) ?_
    have hpt := putT_free (few := few) (is := is) (by omega) hj g2
    rw [show ((a.a.take k).map (putT few is)) ++ [_] = (a.a.take (k + 1)).map (putT few is) from by rw [List.take_succ_eq_append_getElem (by omega), List.map_append, List.map_cons, hpt]; rfl]
    refine go_back (k + 1, A3, c3) ⟨rfl, rfl, rfl, rfl, rfl, rfl, trivial⟩ (by repeat constructor) (by repeat constructor) (by show k + 1 ≤ _; omega) (by show a.a.length - (k + 1) < a.a.length - k; omega)
  ·intro g1
   (try simp only [decide_eq_true_eq, decide_eq_false_iff_not, Bool.not_eq_true', Bool.not_eq_false', Bool.not_eq_eq_eq_not, Bool.not_true, Bool.not_false, Int.not_lt, Int.not_le, beq_iff_eq, beq_eq_false_iff_ne, ne_eq] at g1)
   refine go_skip1 rfl rfl ?_
   refine go_skip1 rfl rfl ?_
   refine go_skip1 rfl rfl ?_
   refine go_skip1 rfl rfl ?_
   refine go_skip2 rfl (by repeat constructor) (by repeat constructor) rfl ?_
   refine go_skip1 rfl rfl ?_
   refine go_skip2 rfl (by repeat constructor) (by repeat constructor) rfl ?_
   refine go_pure1 Tk rfl rfl rfl ?_
   refine go_nil ?_
   refine go_env [(0, _), (4, _), (5, _), (7, _), (12, _), (13, _), (14, _), (21, _), (22, _), (23, _), (24, _), (25, _), (26, _), (27, _), (28, _)] ⟨rfl, rfl, rfl, rfl, rfl, rfl, rfl, rfl, rfl, rfl, rfl, rfl, rfl, rfl, rfl, trivial⟩ ?_
   refine go_cond_f rfl ?_
   refine go_skip ?_
   refine go_region rfl ?_
   refine go_pure0 Tk rfl rfl rfl ?_
   refine go_val0 rfl (ldv Tk rfl rfl rfl) rfl ?_
   refine go_val0 rfl (ldv Tk rfl rfl rfl) rfl ?_
   refine go_bslice Tk rfl rfl rfl rfl rfl rfl rfl rfl (fun h => nomatch h) ?_
   intro b3
   refine go_append1 (T := tTm) (xs := ((a.a.take k).map (putT few is))) Tk (a.a[k]) rfl rfl rfl rfl rfl rfl rfl rfl rfl (by repeat constructor) (by repeat constructor) rfl ent_tm (by omega) (by first | exact (fun _ _ _ => satA) | exact (fun h => nomatch h) | exact (fun h => nomatch (Eq.symm h).trans (show _ = false by kernel_rfl))) ?_
   intro A3 c3
   refine go_pure0 Tk rfl rfl rfl ?_
   refine go_store Tk rfl rfl rfl rfl rfl rfl (by repeat constructor) rfl rfl (by rfl) (fun h => nomatch h) ?_
   refine go_nil ?_
   refine go_env [(0, _), (4, _), (5, _), (12, _), (13, _), (14, _), (21, _), (22, _), (23, _), (24, _), (25, _), (26, _), (27, _)] ⟨rfl, rfl, rfl, rfl, rfl, rfl, rfl, rfl, rfl, rfl, rfl, rfl, rfl, trivial⟩ ?_
   refine go_blk ?_
   refine go_region rfl ?_
   refine go_pure0 Tk rfl rfl rfl ?_
   refine go_pure0 Tk rfl rfl rfl ?_
   refine go_nil ?_
   refine go_i64 14 rfl (by omega) (by omega) ?_
   have hpt := putT_no (few := few) (is := is) g1
   rw [show ((a.a.take k).map (putT few is)) ++ [_] = (a.a.take (k + 1)).map (putT few is) from by rw [List.take_succ_eq_append_getElem (by omega), List.map_append, List.map_cons, hpt]; rfl]
   refine go_back (k + 1, A3, c3) ⟨rfl, rfl, rfl, rfl, rfl, rfl, trivial⟩ (by repeat constructor) (by repeat constructor) (by show k + 1 ≤ _; omega) (by show a.a.length - (k + 1) < a.a.length - k; omega)
 ·intro hq1
  refine go_exit rfl ?_
  refine go_seq ?_
  have htk : a.a.take k = a.a := List.take_of_length_le (by omega)
  rw [htk]
  refine go_freeze_ol (xs := a.a.map (putT few is)) (by repeat constructor) ?_
  refine go_region rfl ?_
  refine go_val0 rfl (ldv Tk rfl rfl rfl) rfl ?_
  refine go_store Tk rfl rfl rfl rfl rfl rfl (by repeat constructor) rfl rfl (by rfl) (fun h => nomatch h) ?_
  refine go_nil ?_
  refine go_env [(4, _)] ⟨rfl, trivial⟩ ?_
  refine go_ret ⟨rfl, rfl⟩ _ _ (res1 (by rfl) (.cell rfl (rdv Tk rfl))) ⟨A1, c1, rfl, rfl, rfl⟩ (by repeat constructor) (by repeat constructor)

end Go.Proofs.YtkhddfknpegpmaaGreat.SL

/- Contracts of functions of the program (Joinc): what each call comes to, for the laws' proofs. -/
set_option linter.unusedVariables false
set_option linter.unusedSimpArgs false
namespace Go.Proofs.YtkhddfknpegpmaaGreat.SL
open Go 

set_option maxHeartbeats 2000000 in
set_option maxRecDepth 20000 in
theorem choiceBecomes (bC : Nat) (few : List Int) (is : List Bool) (hf : few.length = 16) (hi : is.length = 16) (a : Am) (AA : Option Addr) (ac : Nat) (hn : a.a.length ≤ 1000000) (hv : ∀ t ∈ a.a, t.v = true → 0 ≤ t.n ∧ t.n < 16) :
    Spec Tryz.prog 52 #[.pointer (some ⟨bC, 0, none⟩), .agg #[.int .u32 a.p, .slice AA a.a.length ac]] [cl bC 0 (hc few is []), sl tTm AA ac a.a] [] (fun v Ps' Os' => ∃ A c, v = .agg #[.int .u32 (ofA (putA few is a)).p, .slice A (ofA (putA few is a)).a.length c] ∧ Ps' = [sl tU A c (ofA (putA few is a)).a] ∧ Os' = []) := by
 refine spec_of (fn := Tryz.f52) (args := [.pointer (some ⟨bC, 0, none⟩), .agg #[.int .u32 a.p, .slice AA a.a.length ac]]) 15 Tryz.func52 rfl (by kernel_rfl) Tryz.ntmps52 (Nat.le_of_ble_eq_true rfl) (fun w0 hp0 hf0 => ?_)
 refine go_seq ?_
 refine go_region rfl ?_
 refine go_box Tk rfl rfl rfl rfl (by rfl) rfl rfl (fun h => nomatch h) ?_
 intro b0
 refine go_freeze_pt (b := b0) (by repeat constructor) ?_
 refine go_alloc Tk rfl rfl rfl (by rfl) rfl rfl (fun h => nomatch h) ?_
 intro b1
 refine go_nil ?_
 refine go_env [(0, _), (3, _), (4, _)] ⟨rfl, rfl, rfl, trivial⟩ ?_
 refine go_seq ?_
 refine go_region rfl ?_
 refine go_pure0 Tk rfl rfl rfl ?_
 refine go_val0 rfl (ldv Tk rfl rfl rfl) rfl ?_
 refine go_call (choicePut bC few is hf hi a AA ac hn hv) rfl rfl (by rfl) rfl (by repeat constructor) (by repeat constructor) (fun h => nomatch h) ?_
 rintro _ _ _ ⟨A1, c1, rfl, rfl, rfl⟩
 refine go_call (atomsOf (putA few is a) A1 c1 (by unfold putA; rw [List.length_map]; exact hn)) rfl rfl (by rfl) rfl (by repeat constructor) (by repeat constructor) (fun h => nomatch h) ?_
 rintro _ _ _ ⟨A2, c2, rfl, rfl, rfl⟩
 refine go_pure0 Tk rfl rfl rfl ?_
 refine go_pure0 Tk rfl rfl rfl ?_
 refine go_pure0 Tk rfl rfl rfl ?_
 refine go_alloc Tk rfl rfl rfl (by rfl) rfl rfl (fun h => nomatch h) ?_
 intro b2
 refine go_store Tk rfl rfl rfl rfl rfl rfl (by repeat constructor) rfl rfl (by rfl) (fun h => nomatch h) ?_
 refine go_pure0 Tk rfl rfl rfl ?_
 refine go_nil ?_
 refine go_env [(4, _), (5, _)] ⟨rfl, rfl, trivial⟩ ?_
 refine go_seq ?_
 refine go_region rfl ?_
 refine go_val0 rfl (ldv Tk rfl rfl rfl) rfl ?_
 refine go_store Tk rfl rfl rfl rfl rfl rfl (by repeat constructor) rfl rfl (by rfl) (fun h => nomatch h) ?_
 refine go_nil ?_
 refine go_env [(4, _)] ⟨rfl, trivial⟩ ?_
 refine go_ret ⟨rfl, rfl⟩ _ _ (res1 (by rfl) (.cell rfl (rdv Tk rfl))) ⟨A2, c2, rfl, rfl, rfl⟩ (by repeat constructor) (by repeat constructor)

end Go.Proofs.YtkhddfknpegpmaaGreat.SL

/- Contracts of functions of the program (Joind): what each call comes to, for the laws' proofs. -/
set_option linter.unusedVariables false
set_option linter.unusedSimpArgs false
namespace Go.Proofs.YtkhddfknpegpmaaGreat.SL
open Go 

set_option maxHeartbeats 2000000 in
set_option maxRecDepth 20000 in
theorem choiceMeets (few : List Int) (is : List Bool) (hf : few.length = 16) (hi : is.length = 16) (a : Am) (AA : Option Addr) (ac : Nat) (x : Fa) (A : Option Addr) (c : Nat) (hl : a.a.length = x.a.length) (hv : ∀ t ∈ a.a, t.v = true → 0 ≤ t.n ∧ t.n < 16) :
    Spec Tryz.prog 50 #[.agg (hc few is []).toArray, .agg #[.int .u32 a.p, .slice AA a.a.length ac], .agg #[.int .u32 x.p, .slice A x.a.length c]] [sl tTm AA ac a.a, sl tU A c x.a] [] (fun v Ps' Os' => v = .agg (hc (meetL x.a (few, is) a.a 0).1 (meetL x.a (few, is) a.a 0).2 []).toArray ∧ Ps' = [] ∧ Os' = []) := by
 refine spec_of (fn := Tryz.f50) (args := [.agg (hc few is []).toArray, .agg #[.int .u32 a.p, .slice AA a.a.length ac], .agg #[.int .u32 x.p, .slice A x.a.length c]]) 34 Tryz.func50 rfl (by kernel_rfl) Tryz.ntmps50 (Nat.le_of_ble_eq_true rfl) (fun w0 hp0 hf0 => ?_)
 refine go_seq ?_
 refine go_region rfl ?_
 refine go_box (cs := hc few is []) Tk rfl rfl rfl rfl (takeL_len (hc_len hf hi)) (beq_of (hc_len hf hi)) rfl (fun h => nomatch h) ?_
 intro bC
 refine go_box Tk rfl rfl rfl rfl (by rfl) rfl rfl (fun h => nomatch h) ?_
 intro bA
 refine go_box Tk rfl rfl rfl rfl (by rfl) rfl rfl (fun h => nomatch h) ?_
 intro bX
 refine go_alloc Tk rfl rfl rfl (by rfl) rfl rfl (fun h => nomatch h) ?_
 intro bR
 refine go_nil ?_
 refine go_freeze_pt (b := bA) (by repeat constructor) ?_
 refine go_freeze_pt (b := bX) (by repeat constructor) ?_
 refine go_env [(3, _), (4, _), (5, _), (6, _)] ⟨rfl, rfl, rfl, rfl, trivial⟩ ?_
 refine go_seq ?_
 refine go_seq ?_
 refine go_len (xs := a.a) (by repeat constructor) (fun l0 m0 => ?_)
 refine go_region rfl ?_
 refine go_pure0 Tk rfl rfl rfl ?_
 refine go_val0 rfl (ldv Tk rfl rfl rfl) rfl ?_
 refine go_pure0 Tk rfl rfl rfl ?_
 refine go_pure0 Tk rfl rfl rfl ?_
 refine go_nil ?_
 refine go_env [(3, _), (5, _), (6, _), (10, _), (11, _), (12, _)] ⟨rfl, rfl, rfl, rfl, rfl, rfl, trivial⟩ ?_
 refine go_block ?_
 refine go_loop' (X := Nat × List Int × List Bool) (fun z => [(12, .int .i64 (z.1 : Int))]) [(3, _), (5, _), (6, _), (10, _), (11, _)] (fun z => [pt bC 91 (hc z.2.1 z.2.2 [])]) (fun z => z.1 ≤ a.a.length ∧ z.2.1.length = 16 ∧ z.2.2.length = 16 ∧ meetL x.a (few, is) a.a 0 = meetL x.a z.2 (a.a.drop z.1) z.1) (fun z => a.a.length - z.1) ((0, few, is)) ⟨rfl, rfl, rfl, rfl, rfl, rfl, trivial⟩ (by repeat constructor) ⟨by omega, hf, hi, rfl⟩ ?_
 intro ⟨k, f1, i1⟩ ⟨hk, hf1, hi1, hz⟩
 simp only at hk hf1 hi1 hz ⊢
 refine go_seq ?_
 refine go_region rfl ?_
 refine go_pure0 Tk rfl rfl rfl ?_
 refine go_nil ?_
 refine go_env [(3, _), (5, _), (6, _), (10, _), (11, _), (12, _), (13, _)] ⟨rfl, rfl, rfl, rfl, rfl, rfl, rfl, trivial⟩ ?_
 refine go_seq ?_
 refine go_condD rfl ?_ ?_
 ·intro hq1
  refine go_skip ?_
  refine go_seq ?_
  refine go_block ?_
  refine go_seq ?_
  refine go_elem_tm (xs := a.a) (by repeat constructor) (k) (List.getElem?_eq_getElem (by omega)) (fun b1 o1 hA => ?_); cases hA
  refine go_region rfl ?_
  refine go_pure0 Tk rfl rfl rfl ?_
  refine go_val0 rfl (idx_val Tk rfl rfl rfl rfl rfl (by omega)) rfl ?_
  refine go_val0 rfl (ldv Tk rfl rfl rfl) rfl ?_
  refine go_alloc Tk rfl rfl rfl (by rfl) rfl rfl (fun h => nomatch h) ?_
  intro bT
  refine go_pure0 Tk rfl rfl rfl ?_
  refine go_store Tk rfl rfl rfl rfl rfl rfl (by repeat constructor) rfl rfl (by rfl) (fun h => nomatch h) ?_
  refine go_nil ?_
  refine go_freeze_pt (b := bT) (by repeat constructor) ?_
  refine go_env [(3, _), (5, _), (6, _), (7, _), (8, _), (10, _), (11, _), (12, _)] ⟨rfl, rfl, rfl, rfl, rfl, rfl, rfl, rfl, trivial⟩ ?_
  refine go_seq ?_
  refine go_region rfl ?_
  refine go_pure0 Tk rfl rfl rfl ?_
  refine go_val0 rfl (ldv Tk rfl rfl rfl) rfl ?_
  refine go_nil ?_
  refine go_env [(3, _), (5, _), (6, _), (7, _), (8, _), (10, _), (11, _), (12, _), (18, _)] ⟨rfl, rfl, rfl, rfl, rfl, rfl, rfl, rfl, rfl, trivial⟩ ?_
  refine go_cond rfl ?_ ?_
  ·intro g1
   (try simp only [decide_eq_true_eq, decide_eq_false_iff_not, Bool.not_eq_true', Bool.not_eq_false', Bool.not_eq_eq_eq_not, Bool.not_true, Bool.not_false, Int.not_lt, Int.not_le, beq_iff_eq, beq_eq_false_iff_ne, ne_eq] at g1)
   obtain ⟨j, hj, hj16⟩ : ∃ j : Nat, a.a[k].n = (j : Int) ∧ j < 16 := ⟨a.a[k].n.toNat, by have := hv _ (List.getElem_mem _) g1; omega, by have := hv _ (List.getElem_mem _) g1; omega⟩
   refine go_elem_int (xs := x.a) (by repeat constructor) (k) (List.getElem?_eq_getElem (by omega)) (fun b2 o2 hA => ?_); cases hA
   refine go_draw ([cl bT 0 [.bool a.a[k].v, .int .u32 a.a[k].n], cl bX 0 [.int .u32 x.p, .slice (some ⟨b2, o2, none⟩) x.a.length c], cl b2 (o2 + k * 1) [.int .u32 x.a[k]]]) ([]) [1, 3, 5, 8] (SL.pre [(1, 0), (1, 2), (1, 4), (1, 6), (1, 9), (1, 12), (2, 1), (2, 3), (2, 5), (1, 7), (2, 8), (1, 10), (0, 11), (1, 13), (0, 14)] .nil) mixed rfl (by kernel_rfl) ?_
   refine go_pure1 Tk rfl rfl rfl ?_
   refine go_pure1 Tk rfl rfl rfl ?_
   refine go_pure1 Tk rfl rfl rfl ?_
   refine go_pure1 Tk rfl rfl rfl ?_
   refine go_pure1 Tk rfl rfl rfl ?_
   refine go_pure1 Tk rfl rfl rfl ?_
   refine go_val2a rfl (ldv Tk rfl rfl rfl) rfl ?_
   refine go_re 20 (.int .u32 (j : Int)) (by show some (Value.int _ _) = _; rw [hj]) ?_
   refine go_val2a rfl (ldv Tk rfl rfl rfl) rfl ?_
   refine go_re 22 (.int .u32 (j : Int)) (by show some (Value.int _ _) = _; rw [hj]) ?_
   refine go_val2a rfl (ldv Tk rfl rfl rfl) rfl ?_
   refine go_val1 rfl (idx_val Tk rfl rfl rfl rfl rfl (by omega)) rfl ?_
   refine go_val2a rfl (ldv Tk rfl rfl rfl) rfl ?_
   refine go_val1 rfl (idxA_val Tk rfl rfl rfl rfl rfl (by omega)) rfl ?_
   refine go_store Tk rfl rfl rfl rfl rfl rfl (by repeat constructor) rfl rfl (hc_put_few (j := j) (by omega) (by show 0 + 0 + j * 1 = j; omega)) (fun _ => satA) ?_
   refine go_val1 rfl (idxA_val Tk rfl rfl rfl rfl rfl (by omega)) rfl ?_
   refine go_store Tk rfl rfl rfl rfl rfl rfl (by repeat constructor) rfl rfl (hc_put_is (j := j) (by omega) (by show 0 + 16 + j * 1 = _; rw [List.length_set]; omega)) (fun h => nomatch h) ?_
   refine go_nil ?_
   refine go_env [(3, _), (5, _), (6, _), (10, _), (11, _), (12, _)] ⟨rfl, rfl, rfl, rfl, rfl, rfl, trivial⟩ ?_
   refine go_blk ?_
   refine go_region rfl ?_
   refine go_pure0 Tk rfl rfl rfl ?_
   refine go_pure0 Tk rfl rfl rfl ?_
   refine go_nil ?_
   refine go_i64 12 rfl (by omega) (by omega) ?_
   refine go_back (k + 1, f1.set j x.a[k], i1.set j true) ⟨rfl, rfl, rfl, rfl, rfl, rfl, trivial⟩ (by repeat constructor) (by repeat constructor) ⟨by show k + 1 ≤ _; omega, by simpa using hf1, by simpa using hi1, by rw [hz, List.drop_eq_getElem_cons (by omega), meetL, if_pos g1, hj, Int.toNat_natCast, List.getElem?_eq_getElem (by omega)]; rfl⟩ (by show a.a.length - (k + 1) < a.a.length - k; omega)
  ·intro g1
   (try simp only [decide_eq_true_eq, decide_eq_false_iff_not, Bool.not_eq_true', Bool.not_eq_false', Bool.not_eq_eq_eq_not, Bool.not_true, Bool.not_false, Int.not_lt, Int.not_le, beq_iff_eq, beq_eq_false_iff_ne, ne_eq] at g1)
   refine go_skip ?_
   refine go_blk ?_
   refine go_region rfl ?_
   refine go_pure0 Tk rfl rfl rfl ?_
   refine go_pure0 Tk rfl rfl rfl ?_
   refine go_nil ?_
   refine go_i64 12 rfl (by omega) (by omega) ?_
   refine go_back (k + 1, f1, i1) ⟨rfl, rfl, rfl, rfl, rfl, rfl, trivial⟩ (by repeat constructor) (by repeat constructor) ⟨by show k + 1 ≤ _; omega, hf1, hi1, by rw [hz, List.drop_eq_getElem_cons (by omega), meetL, if_neg (by rw [g1]; decide)]⟩ (by show a.a.length - (k + 1) < a.a.length - k; omega)
 ·intro hq1
  refine go_exit rfl ?_
  refine go_seq ?_
  refine go_region rfl ?_
  refine go_val0 rfl (load_val (cs := hc f1 i1 []) Tk rfl rfl rfl (at_all (by repeat constructor) (hc_len hf1 hi1)) rfl) rfl ?_
  refine go_store (cs' := hc f1 i1 []) Tk rfl rfl rfl rfl rfl rfl (by repeat constructor) (beq_of (hc_len hf1 hi1)) (hc_one _ _) (putL_whole (by rw [show (cellsL (.agg (hc f1 i1 []).toArray)).length = 32 from hc_len hf1 hi1]; rfl)) (fun h => nomatch h) ?_
  refine go_nil ?_
  refine go_env [(6, _)] ⟨rfl, trivial⟩ ?_
  refine go_ret ⟨rfl, rfl⟩ _ _ (res1 (by rfl) (.cell rfl (reads_at Tk rfl (at_all (by repeat constructor) (hc_len hf1 hi1)) (by rfl)))) ⟨by rw [hz, List.drop_eq_nil_of_le (by omega)]; rfl, rfl, rfl⟩ (by repeat constructor) (by repeat constructor)

end Go.Proofs.YtkhddfknpegpmaaGreat.SL

/- Contracts of functions of the program (Joine): what each call comes to, for the laws' proofs. -/
set_option linter.unusedVariables false
set_option linter.unusedSimpArgs false
namespace Go.Proofs.YtkhddfknpegpmaaGreat.SL
open Go 

/-- What is needed of a clause and of facts for the walk. -/
structure JoinH (c : Cl) (F R N : List Fa) : Prop where
  vh : vok c.h
  vb : ∀ l ∈ c.b, vok l.a
  lh : c.h.a.length ≤ 12
  lb : ∀ l ∈ c.b, l.a.a.length ≤ 12
  nn : ∀ l ∈ c.b, ∀ t ∈ l.a.a, 0 ≤ t.n
  nF : F.length ≤ 50000000
  bF : ∀ x ∈ F, x.a.length ≤ 100000
  oF : ∀ x ∈ F, ∀ n ∈ x.a, 0 ≤ n
  rR : rises R
  nR : R.length ≤ 50000000
  rN : rises N
  nN : N.length ≤ 50000000
theorem putA_len (few : List Int) (is : List Bool) (a : Am) : (putA few is a).a.length = a.a.length := by simp [putA]
theorem ofA_len (a : Am) : (ofA a).a.length ≤ a.a.length := by unfold ofA; split <;> simp
theorem putA_nn {few : List Int} {is : List Bool} {a : Am} (hf : ∀ v ∈ few, 0 ≤ v) (ha : ∀ t ∈ a.a, 0 ≤ t.n) : ∀ t ∈ (putA few is a).a, 0 ≤ t.n := fun t ht => by
  simp only [putA, List.mem_map] at ht
  obtain ⟨u, hu, rfl⟩ := ht
  unfold putT
  split
  · show 0 ≤ (few[u.n.toNat]?).getD 0
    cases e : few[u.n.toNat]? with
    | none => simp
    | some v => exact hf v (List.mem_of_getElem? e)
  · exact ha u hu
theorem meetL_nn (f : List Int) (hf : ∀ n ∈ f, 0 ≤ n) : ∀ (l : List Tm) (c : Ch) (i : Nat), (∀ v ∈ c.1, 0 ≤ v) → ∀ v ∈ (meetL f c l i).1, 0 ≤ v
  | [], c, i, h => h
  | t :: l, c, i, h => by
    unfold meetL
    refine meetL_nn f hf l _ (i + 1) ?_
    split
    · intro v hv
      rcases List.mem_or_eq_of_mem_set hv with hv | rfl
      · exact h v hv
      · cases e : f[i]? with
        | none => simp
        | some v => exact hf v (List.mem_of_getElem? e)
    · exact h
noncomputable abbrev goF (c : Cl) (F R N : List Fa) (i : Nat) (few : List Int) (is : List Bool) (new : Bool) (f : Fa) : List Fa := goL c F R N (c.b.drop (i + 1)) (meetL f.a (few, is) (c.b[i]?.getD ⟨false, ⟨0, []⟩⟩).a.a 0) (new || decide (f ∈ R))
theorem goL_not {c : Cl} {F R N : List Fa} {i : Nat} (hi : i < c.b.length) (e : c.b[i].no = true) (ch : Ch) (new : Bool) : goL c F R N (c.b.drop i) ch new = goL c F R N (c.b.drop (i + 1)) ch new := by
  rw [List.drop_eq_getElem_cons hi, goL, if_pos e]
theorem goL_yes {c : Cl} {F R N : List Fa} {i : Nat} (hi : i < c.b.length) (e : c.b[i].no = false) (few : List Int) (is : List Bool) (new : Bool) : goL c F R N (c.b.drop i) (few, is) new = (F.filter (mtch (putA few is c.b[i].a))).flatMap (goF c F R N i few is new) := by
  rw [List.drop_eq_getElem_cons hi, goL, if_neg (by rw [e]; decide)]
  unfold goF
  rw [List.getElem?_eq_getElem hi]; rfl
theorem goL_end {c : Cl} {F R N : List Fa} {i : Nat} (hi : c.b.length ≤ i) (ch : Ch) (new : Bool) : goL c F R N (c.b.drop i) ch new = if okN N c.b ch = true ∧ new = true then [ofA (putA ch.1 ch.2 c.h)] else [] := by
  rw [List.drop_eq_nil_of_le hi, goL]
theorem flat_next {α β : Type} {l : List α} {k : Nat} (hk : k < l.length) (g : α → List β) : (l.take (k + 1)).flatMap g = (l.take k).flatMap g ++ g l[k] := by
  rw [List.take_succ_eq_append_getElem hk, List.flatMap_append]; simp
theorem flat_len {α β : Type} {l : List α} {k : Nat} (hk : k < l.length) (g : α → List β) : ((l.take k).flatMap g).length + (g l[k]).length ≤ (l.flatMap g).length := by
  rw [← List.length_append, ← flat_next hk]
  conv => rhs; rw [← List.take_append_drop (k + 1) l, List.flatMap_append, List.length_append]
  omega
theorem okN_no {N : List Fa} {b : List Li} {c : Ch} {k : Nat} (hk : k < b.length) (e : b[k].no = true) (h : ofA (putA c.1 c.2 b[k].a) ∈ N) : okN N b c = false := by
  unfold okN
  rw [Bool.not_eq_false', List.any_eq_true]
  exact ⟨b[k], List.getElem_mem hk, by rw [e, decide_eq_true h]; rfl⟩
theorem okN_yes {N : List Fa} {b : List Li} {c : Ch} {k : Nat} (hk : b.length ≤ k) (h : ∀ l ∈ b.take k, ¬ (l.no = true ∧ ofA (putA c.1 c.2 l.a) ∈ N)) : okN N b c = true := by
  rw [List.take_of_length_le hk] at h
  unfold okN
  rw [Bool.not_eq_true', List.any_eq_false]
  intro l hl
  have := h l hl
  simp only [Bool.and_eq_true, decide_eq_true_eq]
  exact this

set_option maxHeartbeats 2000000 in
set_option maxRecDepth 20000 in
theorem heads1 (c : Cl) (CA : Option Addr) (cc : Nat) (CB : Option Addr) (cd : Nat) (bC bF bf bg bn bo b : Nat) (pf pg pn : Option Addr) (F R N : List Fa) (H : JoinH c F R N) (i : Nat) (few : List Int) (is : List Bool) (new : Bool) (out : List Fa) (hil : i ≤ c.b.length) (hf : few.length = 16) (hi : is.length = 16) (hv : ∀ v ∈ few, 0 ≤ v) (ho : rises out) (hlen : out.length + (goL c F R N (c.b.drop (i)) (few, is) new).length ≤ 50000000) (ih : i < c.b.length → ∀ (few : List Int) (is : List Bool) (new : Bool) (out : List Fa) (hil : i + 1 ≤ c.b.length) (hf : few.length = 16) (hi : is.length = 16) (hv : ∀ v ∈ few, 0 ≤ v) (ho : rises out) (hlen : out.length + (goL c F R N (c.b.drop (i + 1)) (few, is) new).length ≤ 50000000), Spec Tryz.prog 47 #[.int .i64 ((i + 1 : Nat) : Int), .agg (hc (few) (is) []).toArray, .bool (new), .pointer (some ⟨bC, 0, none⟩), .pointer (some ⟨bF, 0, none⟩), .pointer (some ⟨bf, 0, none⟩), .pointer (some ⟨bg, 0, none⟩), .pointer (some ⟨bn, 0, none⟩), .pointer (some ⟨bo, 0, none⟩)] [cl bC 0 [.int .u32 c.h.p, .slice CA c.h.a.length cc, .slice CB c.b.length cd], sl tTm CA cc c.h.a, sl tLi CB cd c.b, cl bF 0 [.func (.func 47) #[] #[.pointer (some ⟨bC, 0, none⟩), .pointer (some ⟨bF, 0, none⟩), .pointer (some ⟨bf, 0, none⟩), .pointer (some ⟨bg, 0, none⟩), .pointer (some ⟨bn, 0, none⟩), .pointer (some ⟨bo, 0, none⟩)]], cl bf 0 [.pointer pf], cl bg 0 [.pointer pg], cl bn 0 [.pointer pn], cl bo 0 [.pointer (some ⟨b, 0, none⟩)], relN pf F, relN pg R, relN pn N] [relO b out] (fun v Ps' Os' => v = .tuple #[] ∧ Ps' = [] ∧ Os' = [relO b ((goL c F R N (c.b.drop (i + 1)) (few, is) (new)).foldl fput (out))])) :
    Spec Tryz.prog 47 #[.int .i64 (i : Int), .agg (hc (few) (is) []).toArray, .bool (new), .pointer (some ⟨bC, 0, none⟩), .pointer (some ⟨bF, 0, none⟩), .pointer (some ⟨bf, 0, none⟩), .pointer (some ⟨bg, 0, none⟩), .pointer (some ⟨bn, 0, none⟩), .pointer (some ⟨bo, 0, none⟩)] [cl bC 0 [.int .u32 c.h.p, .slice CA c.h.a.length cc, .slice CB c.b.length cd], sl tTm CA cc c.h.a, sl tLi CB cd c.b, cl bF 0 [.func (.func 47) #[] #[.pointer (some ⟨bC, 0, none⟩), .pointer (some ⟨bF, 0, none⟩), .pointer (some ⟨bf, 0, none⟩), .pointer (some ⟨bg, 0, none⟩), .pointer (some ⟨bn, 0, none⟩), .pointer (some ⟨bo, 0, none⟩)]], cl bf 0 [.pointer pf], cl bg 0 [.pointer pg], cl bn 0 [.pointer pn], cl bo 0 [.pointer (some ⟨b, 0, none⟩)], relN pf F, relN pg R, relN pn N] [relO b out] (fun v Ps' Os' => v = .tuple #[] ∧ Ps' = [] ∧ Os' = [relO b ((goL c F R N (c.b.drop (i)) (few, is) (new)).foldl fput (out))]) := by
 refine spec_of (fn := Tryz.f47) (args := [.int .i64 (i : Int), .agg (hc (few) (is) []).toArray, .bool (new), .pointer (some ⟨bC, 0, none⟩), .pointer (some ⟨bF, 0, none⟩), .pointer (some ⟨bf, 0, none⟩), .pointer (some ⟨bg, 0, none⟩), .pointer (some ⟨bn, 0, none⟩), .pointer (some ⟨bo, 0, none⟩)]) 84 Tryz.func47 rfl (by kernel_rfl) Tryz.ntmps47 (Nat.le_of_ble_eq_true rfl) (fun w0 hp0 hf0 => ?_)
 refine go_seq ?_
 refine go_region rfl ?_
 refine go_box (cs := hc few is []) Tk rfl rfl rfl rfl (takeL_len (hc_len hf hi)) (beq_of (hc_len hf hi)) rfl (fun h => nomatch h) ?_
 intro bH
 refine go_freeze_pt (b := bH) (by repeat constructor) ?_
 refine go_nil ?_
 refine go_env [(0, _), (2, _), (3, _), (4, _), (5, _), (6, _), (7, _), (8, _), (10, _)] ⟨rfl, rfl, rfl, rfl, rfl, rfl, rfl, rfl, rfl, trivial⟩ ?_
 refine go_seq ?_
 refine go_seq ?_
 refine go_len (xs := c.b) (by repeat constructor) (fun l0 m0 => ?_)
 refine go_region rfl ?_
 refine go_pure0 Tk rfl rfl rfl ?_
 refine go_pure0 Tk rfl rfl rfl ?_
 refine go_val0 rfl (ldv Tk rfl rfl rfl) rfl ?_
 refine go_pure0 Tk rfl rfl rfl ?_
 refine go_pure0 Tk rfl rfl rfl ?_
 refine go_nil ?_
 refine go_env [(0, _), (2, _), (3, _), (4, _), (5, _), (6, _), (7, _), (8, _), (10, _), (21, _)] ⟨rfl, rfl, rfl, rfl, rfl, rfl, rfl, rfl, rfl, rfl, trivial⟩ ?_
 refine go_condD rfl ?_ ?_
 ·intro g0
  refine go_seq ?_
  refine go_elem_li (xs := c.b) (by repeat constructor) (i) (List.getElem?_eq_getElem (by omega)) (fun b0 o0 A0 c0 hA => ?_); cases hA
  refine go_region rfl ?_
  refine go_pure0 Tk rfl rfl rfl ?_
  refine go_val0 rfl (ldv Tk rfl rfl rfl) rfl ?_
  refine go_pure0 Tk rfl rfl rfl ?_
  refine go_val0 rfl (idx_val Tk rfl rfl rfl rfl rfl (by omega)) rfl ?_
  refine go_val0 rfl (ldv Tk rfl rfl rfl) rfl ?_
  refine go_alloc Tk rfl rfl rfl (by rfl) rfl rfl (fun h => nomatch h) ?_
  intro bL
  refine go_store Tk rfl rfl rfl rfl rfl rfl (by repeat constructor) rfl rfl (by rfl) (fun h => nomatch h) ?_
  refine go_nil ?_
  refine go_freeze_pt (b := bL) (by repeat constructor) ?_
  have hvl := H.vb c.b[i] (List.getElem_mem _)
  have hll := H.lb c.b[i] (List.getElem_mem _)
  have hnl := putA_nn (is := is) hv (H.nn c.b[i] (List.getElem_mem _))
  refine go_env [(0, _), (2, _), (4, _), (5, _), (6, _), (10, _), (12, _)] ⟨rfl, rfl, rfl, rfl, rfl, rfl, rfl, trivial⟩ ?_
  refine go_seq ?_
  refine go_seq ?_
  refine go_region rfl ?_
  refine go_pure0 Tk rfl rfl rfl ?_
  refine go_val0 rfl (ldv Tk rfl rfl rfl) rfl ?_
  refine go_nil ?_
  refine go_env [(0, _), (2, _), (4, _), (5, _), (6, _), (10, _), (12, _), (28, _)] ⟨rfl, rfl, rfl, rfl, rfl, rfl, rfl, rfl, trivial⟩ ?_
  refine go_cond rfl ?_ ?_
  ·intro g1
   (try simp only [decide_eq_true_eq, decide_eq_false_iff_not, Bool.not_eq_true', Bool.not_eq_false', Bool.not_eq_eq_eq_not, Bool.not_true, Bool.not_false, Int.not_lt, Int.not_le, beq_iff_eq, beq_eq_false_iff_ne, ne_eq] at g1)
   have hgo := goL_not (F := F) (R := R) (N := N) (by omega) g1 (few, is) new
   rw [hgo] at hlen
   refine go_seq ?_
   refine go_region rfl ?_
   refine go_val0 rfl (ldv Tk rfl rfl rfl) rfl ?_
   refine go_pure0 Tk rfl rfl rfl ?_
   refine go_pure0 Tk rfl rfl rfl ?_
   refine go_re 31 (.int .i64 ((i + 1 : Nat) : Int)) (by show some (Value.int _ _) = _; rw [wrap_i64 (by omega) (by omega)]; rfl) ?_
   refine go_val0 rfl (load_val (cs := hc few is []) Tk rfl rfl rfl (at_allcl (by repeat constructor) (hc_len hf hi)) rfl) rfl ?_
   refine go_pure0 Tk rfl rfl rfl ?_
   refine go_call (ih (by omega) few is new out (by omega) hf hi hv ho hlen) rfl rfl (by rfl) rfl (by repeat constructor) (by repeat constructor) (fun h => nomatch h) ?_
   rintro _ _ _ ⟨rfl, rfl, rfl⟩
   refine go_nil ?_
   refine go_env [] trivial ?_
   refine go_ret ⟨rfl, rfl⟩ _ _ (res0 (by rfl)) ⟨rfl, rfl, by rw [hgo]⟩ (by repeat constructor) (by repeat constructor)
  ·intro g1
   (try simp only [decide_eq_true_eq, decide_eq_false_iff_not, Bool.not_eq_true', Bool.not_eq_false', Bool.not_eq_eq_eq_not, Bool.not_true, Bool.not_false, Int.not_lt, Int.not_le, beq_iff_eq, beq_eq_false_iff_ne, ne_eq] at g1)
   have hgo := goL_yes (F := F) (R := R) (N := N) (by omega) g1 few is new
   rw [hgo] at hlen
   refine go_skip ?_
   refine go_seq ?_
   refine go_seq ?_
   refine go_draw ([cl bf 0 [.pointer pf], cl bL 0 [.bool c.b[i].no, .int .u32 c.b[i].a.p, .slice A0 c.b[i].a.a.length c0]]) ([]) [0, 2] (SL.pre [(1, 1), (1, 6), (2, 0), (2, 2), (0, 3), (0, 4), (1, 5)] .nil) mixed rfl (by kernel_rfl) ?_
   refine go_pure1 Tk rfl rfl rfl ?_
   refine go_pure1 Tk rfl rfl rfl ?_
   refine go_val2a rfl (ldv Tk rfl rfl rfl) rfl ?_
   refine go_val2a rfl (ldv Tk rfl rfl rfl) rfl ?_
   refine go_call (choicePut bH few is hf hi c.b[i].a A0 c0 (by omega) hvl) rfl rfl (by rfl) rfl (by repeat constructor) (by repeat constructor) (fun _ v Ps' Os' hq => by obtain ⟨A1, c1, rfl, rfl, rfl⟩ := hq; exact satS (by repeat constructor) (by repeat constructor)) ?_
   rintro _ _ _ ⟨A1, c1, rfl, rfl, rfl⟩
   refine go_call (relFindN pf F (putA few is c.b[i].a) A1 c1 hnl (by rw [putA_len]; omega) H.nF H.bF) rfl rfl (by rfl) rfl (by repeat constructor) (by repeat constructor) (fun h => nomatch h) ?_
   rintro _ _ _ ⟨A2, c2, rfl, rfl, rfl⟩
   refine go_freeze_dl (T := tFa) (A := A2) (by repeat constructor) ?_
   refine go_len (xs := F.filter (mtch (putA few is c.b[i].a))) (by repeat constructor) (fun l2 m2 => ?_)
   refine go_same (A := relO b out) (B := relO b (((F.filter (mtch (putA few is c.b[i].a))).take (0) |>.flatMap (goF c F R N i few is new)).foldl fput out)) (by repeat constructor) rfl ?_
   refine go_pure1 Tk rfl rfl rfl ?_
   refine go_nil ?_
   refine go_env [(0, _), (2, _), (4, _), (6, _), (10, _), (12, _), (39, _), (40, _), (41, _)] ⟨rfl, rfl, rfl, rfl, rfl, rfl, rfl, rfl, rfl, trivial⟩ ?_
   refine go_block ?_
   refine go_loop' (X := Nat) (fun k => [(41, .int .i64 (k : Int))]) [(0, _), (2, _), (4, _), (6, _), (10, _), (12, _), (39, _), (40, _)] (fun k => [relO b (((F.filter (mtch (putA few is c.b[i].a))).take (k) |>.flatMap (goF c F R N i few is new)).foldl fput out)]) (fun k => k ≤ (F.filter (mtch (putA few is c.b[i].a))).length) (fun k => (F.filter (mtch (putA few is c.b[i].a))).length - k) (0) ⟨rfl, rfl, rfl, rfl, rfl, rfl, rfl, rfl, rfl, trivial⟩ (by repeat constructor) (by omega) ?_
   intro k hk
   refine go_seq ?_
   refine go_region rfl ?_
   refine go_pure0 Tk rfl rfl rfl ?_
   refine go_nil ?_
   refine go_env [(0, _), (2, _), (4, _), (6, _), (10, _), (12, _), (39, _), (40, _), (41, _), (42, _)] ⟨rfl, rfl, rfl, rfl, rfl, rfl, rfl, rfl, rfl, rfl, trivial⟩ ?_
   refine go_seq ?_
   refine go_condD rfl ?_ ?_
   ·intro hk2
    refine go_skip ?_
    refine go_seq ?_
    refine go_block ?_
    refine go_seq ?_
    have hkl : k < (F.filter (mtch (putA few is c.b[i].a))).length := by omega
    obtain ⟨f, hfe⟩ : ∃ f, f = (F.filter (mtch (putA few is c.b[i].a)))[k] := ⟨_, rfl⟩
    have hfm : f ∈ F.filter (mtch (putA few is c.b[i].a)) := by rw [hfe]; exact List.getElem_mem hkl
    rw [List.mem_filter] at hfm
    refine go_elem_fa (xs := F.filter (mtch (putA few is c.b[i].a))) (by repeat constructor) (k) (List.getElem?_eq_getElem (by omega)) (fun b3 o3 A3 c3 hA => ?_); cases hA
    rw [← hfe]
    refine go_region rfl ?_
    refine go_val0 rfl (idx_val Tk rfl rfl rfl rfl rfl (by omega)) rfl ?_
    refine go_val0 rfl (ldv Tk rfl rfl rfl) rfl ?_
    refine go_alloc Tk rfl rfl rfl (by rfl) rfl rfl (fun h => nomatch h) ?_
    intro bX
    refine go_store Tk rfl rfl rfl rfl rfl rfl (by repeat constructor) rfl rfl (by rfl) (fun h => nomatch h) ?_
    refine go_nil ?_
    refine go_freeze_pt (b := bX) (by repeat constructor) ?_
    refine go_env [(0, _), (2, _), (4, _), (6, _), (10, _), (12, _), (14, _), (39, _), (40, _), (41, _)] ⟨rfl, rfl, rfl, rfl, rfl, rfl, rfl, rfl, rfl, rfl, trivial⟩ ?_
    refine go_draw ([cl bF 0 [.func (.func 47) #[] #[.pointer (some ⟨bC, 0, none⟩), .pointer (some ⟨bF, 0, none⟩), .pointer (some ⟨bf, 0, none⟩), .pointer (some ⟨bg, 0, none⟩), .pointer (some ⟨bn, 0, none⟩), .pointer (some ⟨bo, 0, none⟩)]], cl bH 0 (hc few is []), cl bL 0 [.bool c.b[i].no, .int .u32 c.b[i].a.p, .slice A0 c.b[i].a.a.length c0], cl bX 0 [.int .u32 f.p, .slice A3 f.a.length c3], cl bg 0 [.pointer pg]]) ([]) [0, 3, 5, 6, 10, 11] (SL.pre [(1, 1), (1, 2), (1, 4), (1, 8), (2, 0), (2, 3), (2, 5), (2, 6), (0, 7), (1, 9), (2, 10), (2, 11), (0, 12), (1, 13), (0, 14)] .nil) mixed rfl (by kernel_rfl) ?_
    refine go_pure1 Tk rfl rfl rfl ?_
    refine go_pure1 Tk rfl rfl rfl ?_
    refine go_re 47 (.int .i64 ((i + 1 : Nat) : Int)) (by show some (Value.int _ _) = _; rw [wrap_i64 (by omega) (by omega)]; rfl) ?_
    refine go_pure1 Tk rfl rfl rfl ?_
    refine go_pure1 Tk rfl rfl rfl ?_
    refine go_val2a rfl (ldv Tk rfl rfl rfl) rfl ?_
    refine go_val2a rfl (load_val (cs := hc few is []) Tk rfl rfl rfl (at_allcl (by repeat constructor) (hc_len hf hi)) rfl) rfl ?_
    refine go_val2a rfl (ldv Tk rfl rfl rfl) rfl ?_
    refine go_val2a rfl (ldv Tk rfl rfl rfl) rfl ?_
    refine go_call (choiceMeets few is hf hi c.b[i].a A0 c0 f A3 c3 (by have := (show Mt _ f from of_decide_eq_true hfm.2).pred.2; rw [putA_len] at this; exact this) hvl) rfl rfl (by rfl) rfl (by repeat constructor) (by repeat constructor) (fun _ v Ps' Os' hq => by obtain ⟨rfl, rfl, rfl⟩ := hq; exact satS (by repeat constructor) (by repeat constructor)) ?_
    rintro _ _ _ ⟨rfl, rfl, rfl⟩
    refine go_pure1 Tk rfl rfl rfl ?_
    refine go_known 54 rfl ?_ ?_
    ·intro g2
     (try simp only [decide_eq_true_eq, decide_eq_false_iff_not, Bool.not_eq_true', Bool.not_eq_false', Bool.not_eq_eq_eq_not, Bool.not_true, Bool.not_false, Int.not_lt, Int.not_le, beq_iff_eq, beq_eq_false_iff_ne, ne_eq] at g2)
     refine go_skip2 rfl (by repeat constructor) (by repeat constructor) rfl ?_
     refine go_skip2 rfl (by repeat constructor) (by repeat constructor) rfl ?_
     refine go_skip0f rfl satA rfl ?_
     refine go_pure1 Tk rfl rfl rfl ?_
     refine go_re 58 (.bool (new || decide (f ∈ R))) (by show some (Value.bool _) = _; rw [g2]; simp) ?_
     have hfg : goF c F R N i few is new (F.filter (mtch (putA few is c.b[i].a)))[k] = goL c F R N (c.b.drop (i + 1)) (meetL f.a (few, is) c.b[i].a.a 0) (new || decide (f ∈ R)) := by
       unfold goF
       rw [← hfe, List.getElem?_eq_getElem (by omega)]; rfl
     have hfl := flat_len hkl (goF c F R N i few is new)
     rw [hfg] at hfl
     have hol := foldl_flen ((F.filter (mtch (putA few is c.b[i].a))).take k |>.flatMap (goF c F R N i few is new)) out
     refine go_call (ih (by omega) (meetL f.a (few, is) c.b[i].a.a 0).1 (meetL f.a (few, is) c.b[i].a.a 0).2 (new || decide (f ∈ R)) (((F.filter (mtch (putA few is c.b[i].a))).take (k) |>.flatMap (goF c F R N i few is new)).foldl fput out) (by omega) (meetL_ok f.a _ (few, is) 0 ⟨hf, hi⟩).f (meetL_ok f.a _ (few, is) 0 ⟨hf, hi⟩).i (meetL_nn f.a (H.oF f hfm.1) _ (few, is) 0 hv) (foldl_rises _ _ ho) (by show _ + (goL c F R N (c.b.drop (i + 1)) (meetL f.a (few, is) c.b[i].a.a 0) (new || decide (f ∈ R))).length ≤ _; omega)) rfl rfl (by rfl) rfl (by repeat constructor) (by repeat constructor) (fun h => nomatch h) ?_
     rintro _ _ _ ⟨rfl, rfl, rfl⟩
     refine go_nil ?_
     refine go_env [(0, _), (2, _), (4, _), (6, _), (10, _), (12, _), (39, _), (40, _), (41, _), (55, _), (56, _), (57, _)] ⟨rfl, rfl, rfl, rfl, rfl, rfl, rfl, rfl, rfl, rfl, rfl, rfl, trivial⟩ ?_
     refine go_blk ?_
     refine go_region rfl ?_
     refine go_pure0 Tk rfl rfl rfl ?_
     refine go_pure0 Tk rfl rfl rfl ?_
     refine go_nil ?_
     refine go_i64 41 rfl (by omega) (by omega) ?_
     refine go_same (B := relO b (((F.filter (mtch (putA few is c.b[i].a))).take (k + 1) |>.flatMap (goF c F R N i few is new)).foldl fput out)) .here (by rw [flat_next hkl, List.foldl_append, hfg]) ?_
     refine go_back (k + 1) ⟨rfl, rfl, rfl, rfl, rfl, rfl, rfl, rfl, rfl, trivial⟩ (by repeat constructor) (by repeat constructor) (by omega) (by omega)
    ·intro g2
     (try simp only [decide_eq_true_eq, decide_eq_false_iff_not, Bool.not_eq_true', Bool.not_eq_false', Bool.not_eq_eq_eq_not, Bool.not_true, Bool.not_false, Int.not_lt, Int.not_le, beq_iff_eq, beq_eq_false_iff_ne, ne_eq] at g2)
     refine go_val2a rfl (ldv Tk rfl rfl rfl) rfl ?_
     refine go_val2a rfl (ldv Tk rfl rfl rfl) rfl ?_
     refine go_call (relHasN pg R f A3 c3 H.rR H.nR) rfl rfl (by rfl) rfl (by repeat constructor) (by repeat constructor) (fun _ v Ps' Os' hq => by obtain ⟨rfl, rfl, rfl⟩ := hq; exact satS (by repeat constructor) (by repeat constructor)) ?_
     rintro _ _ _ ⟨rfl, rfl, rfl⟩
     refine go_pure1 Tk rfl rfl rfl ?_
     refine go_re 58 (.bool (new || decide (f ∈ R))) (by show some (Value.bool _) = _; rw [g2]; simp) ?_
     have hfg : goF c F R N i few is new (F.filter (mtch (putA few is c.b[i].a)))[k] = goL c F R N (c.b.drop (i + 1)) (meetL f.a (few, is) c.b[i].a.a 0) (new || decide (f ∈ R)) := by
       unfold goF
       rw [← hfe, List.getElem?_eq_getElem (by omega)]; rfl
     have hfl := flat_len hkl (goF c F R N i few is new)
     rw [hfg] at hfl
     have hol := foldl_flen ((F.filter (mtch (putA few is c.b[i].a))).take k |>.flatMap (goF c F R N i few is new)) out
     refine go_call (ih (by omega) (meetL f.a (few, is) c.b[i].a.a 0).1 (meetL f.a (few, is) c.b[i].a.a 0).2 (new || decide (f ∈ R)) (((F.filter (mtch (putA few is c.b[i].a))).take (k) |>.flatMap (goF c F R N i few is new)).foldl fput out) (by omega) (meetL_ok f.a _ (few, is) 0 ⟨hf, hi⟩).f (meetL_ok f.a _ (few, is) 0 ⟨hf, hi⟩).i (meetL_nn f.a (H.oF f hfm.1) _ (few, is) 0 hv) (foldl_rises _ _ ho) (by show _ + (goL c F R N (c.b.drop (i + 1)) (meetL f.a (few, is) c.b[i].a.a 0) (new || decide (f ∈ R))).length ≤ _; omega)) rfl rfl (by rfl) rfl (by repeat constructor) (by repeat constructor) (fun h => nomatch h) ?_
     rintro _ _ _ ⟨rfl, rfl, rfl⟩
     refine go_nil ?_
     refine go_env [(0, _), (2, _), (4, _), (6, _), (10, _), (12, _), (39, _), (40, _), (41, _), (55, _), (56, _), (57, _)] ⟨rfl, rfl, rfl, rfl, rfl, rfl, rfl, rfl, rfl, rfl, rfl, rfl, trivial⟩ ?_
     refine go_blk ?_
     refine go_region rfl ?_
     refine go_pure0 Tk rfl rfl rfl ?_
     refine go_pure0 Tk rfl rfl rfl ?_
     refine go_nil ?_
     refine go_i64 41 rfl (by omega) (by omega) ?_
     refine go_same (B := relO b (((F.filter (mtch (putA few is c.b[i].a))).take (k + 1) |>.flatMap (goF c F R N i few is new)).foldl fput out)) .here (by rw [flat_next hkl, List.foldl_append, hfg]) ?_
     refine go_back (k + 1) ⟨rfl, rfl, rfl, rfl, rfl, rfl, rfl, rfl, rfl, trivial⟩ (by repeat constructor) (by repeat constructor) (by omega) (by omega)
   ·intro hk2
    refine go_same (B := relO b ((F.filter (mtch (putA few is c.b[i].a))).flatMap (goF c F R N i few is new) |>.foldl fput out)) .here (by rw [List.take_of_length_le (by omega)]) ?_
    refine go_exit rfl ?_
    refine go_ret ⟨rfl, rfl⟩ _ _ (res0 (by rfl)) ⟨rfl, rfl, by rw [hgo]⟩ (by repeat constructor) (by repeat constructor)
 ·intro g0
  refine go_skip ?_
  refine go_seq ?_
  refine go_seq ?_
  have hgo := goL_end (F := F) (R := R) (N := N) (show c.b.length ≤ i by omega) (few, is) new
  rw [hgo] at hlen
  refine go_region rfl ?_
  refine go_pure0 Tk rfl rfl rfl ?_
  refine go_val0 rfl (ldv Tk rfl rfl rfl) rfl ?_
  refine go_pure0 Tk rfl rfl rfl ?_
  refine go_pure0 Tk rfl rfl rfl ?_
  refine go_nil ?_
  refine go_env [(2, _), (3, _), (7, _), (8, _), (10, _), (62, _), (63, _), (64, _)] ⟨rfl, rfl, rfl, rfl, rfl, rfl, rfl, rfl, trivial⟩ ?_
  refine go_block ?_
  refine go_loop' (X := Nat) (fun k => [(64, .int .i64 (k : Int))]) [(2, _), (3, _), (7, _), (8, _), (10, _), (62, _), (63, _)] (fun _ => []) (fun k => k ≤ c.b.length ∧ ∀ l ∈ c.b.take k, ¬ (l.no = true ∧ ofA (putA few is l.a) ∈ N)) (fun k => c.b.length - k) (0) ⟨rfl, rfl, rfl, rfl, rfl, rfl, rfl, rfl, trivial⟩ (by repeat constructor) ⟨by omega, by simp⟩ ?_
  intro k ⟨hk, hz⟩
  refine go_seq ?_
  refine go_region rfl ?_
  refine go_pure0 Tk rfl rfl rfl ?_
  refine go_nil ?_
  refine go_env [(2, _), (3, _), (7, _), (8, _), (10, _), (62, _), (63, _), (64, _), (65, _)] ⟨rfl, rfl, rfl, rfl, rfl, rfl, rfl, rfl, rfl, trivial⟩ ?_
  refine go_seq ?_
  refine go_condD rfl ?_ ?_
  ·intro hq1
   refine go_skip ?_
   refine go_seq ?_
   refine go_block ?_
   refine go_seq ?_
   refine go_elem_li (xs := c.b) (by repeat constructor) (k) (List.getElem?_eq_getElem (by omega)) (fun b4 o4 A4 c4 hA => ?_); cases hA
   refine go_region rfl ?_
   refine go_val0 rfl (idx_val Tk rfl rfl rfl rfl rfl (by omega)) rfl ?_
   refine go_val0 rfl (ldv Tk rfl rfl rfl) rfl ?_
   refine go_alloc Tk rfl rfl rfl (by rfl) rfl rfl (fun h => nomatch h) ?_
   intro bM
   refine go_store Tk rfl rfl rfl rfl rfl rfl (by repeat constructor) rfl rfl (by rfl) (fun h => nomatch h) ?_
   refine go_nil ?_
   refine go_freeze_pt (b := bM) (by repeat constructor) ?_
   have hvk := H.vb c.b[k] (List.getElem_mem _)
   have hlk := H.lb c.b[k] (List.getElem_mem _)
   refine go_env [(2, _), (3, _), (7, _), (8, _), (10, _), (16, _), (62, _), (63, _), (64, _)] ⟨rfl, rfl, rfl, rfl, rfl, rfl, rfl, rfl, rfl, trivial⟩ ?_
   refine go_seq ?_
   refine go_draw ([cl bn 0 [.pointer pn], cl bM 0 [.bool c.b[k].no, .int .u32 c.b[k].a.p, .slice A4 c.b[k].a.a.length c4]]) ([]) [1, 3, 5] (SL.pre [(1, 0), (2, 1), (1, 2), (1, 4), (2, 3), (2, 5), (0, 6), (0, 7), (1, 8)] .nil) mixed rfl (by kernel_rfl) ?_
   refine go_pure1 Tk rfl rfl rfl ?_
   refine go_val2a rfl (ldv Tk rfl rfl rfl) rfl ?_
   refine go_pure1 Tk rfl rfl rfl ?_
   refine go_known 70 rfl ?_ ?_
   ·intro g3
    (try simp only [decide_eq_true_eq, decide_eq_false_iff_not, Bool.not_eq_true', Bool.not_eq_false', Bool.not_eq_eq_eq_not, Bool.not_true, Bool.not_false, Int.not_lt, Int.not_le, beq_iff_eq, beq_eq_false_iff_ne, ne_eq] at g3)
    refine go_pure1 Tk rfl rfl rfl ?_
    refine go_val2a rfl (ldv Tk rfl rfl rfl) rfl ?_
    refine go_val2a rfl (ldv Tk rfl rfl rfl) rfl ?_
    refine go_call (choiceBecomes bH few is hf hi c.b[k].a A4 c4 (by omega) hvk) rfl rfl (by rfl) rfl (by repeat constructor) (by repeat constructor) (fun _ v Ps' Os' hq => by obtain ⟨A5, c5, rfl, rfl, rfl⟩ := hq; exact satS (by repeat constructor) (by repeat constructor)) ?_
    rintro _ _ _ ⟨A5, c5, rfl, rfl, rfl⟩
    refine go_call (relHasN pn N (ofA (putA few is c.b[k].a)) A5 c5 H.rN H.nN) rfl rfl (by rfl) rfl (by repeat constructor) (by repeat constructor) (fun h => nomatch h) ?_
    rintro _ _ _ ⟨rfl, rfl, rfl⟩
    refine go_pure1 Tk rfl rfl rfl ?_
    refine go_nil ?_
    refine go_env [(2, _), (3, _), (7, _), (8, _), (10, _), (62, _), (63, _), (64, _), (71, _), (72, _), (73, _), (74, _), (75, _), (76, _)] ⟨rfl, rfl, rfl, rfl, rfl, rfl, rfl, rfl, rfl, rfl, rfl, rfl, rfl, rfl, trivial⟩ ?_
    refine go_cond rfl ?_ ?_
    ·intro g4
     (try simp only [decide_eq_true_eq, decide_eq_false_iff_not, Bool.not_eq_true', Bool.not_eq_false', Bool.not_eq_eq_eq_not, Bool.not_true, Bool.not_false, Int.not_lt, Int.not_le, beq_iff_eq, beq_eq_false_iff_ne, ne_eq] at g4)
     refine go_ret ⟨rfl, rfl⟩ _ _ (res0 (by rfl)) ⟨rfl, rfl, by rw [hgo, if_neg (fun q => by rw [okN_no (c := (few, is)) (by omega) g3 g4] at q; cases q.1)]⟩ (by repeat constructor) (by repeat constructor)
    ·intro g4
     (try simp only [decide_eq_true_eq, decide_eq_false_iff_not, Bool.not_eq_true', Bool.not_eq_false', Bool.not_eq_eq_eq_not, Bool.not_true, Bool.not_false, Int.not_lt, Int.not_le, beq_iff_eq, beq_eq_false_iff_ne, ne_eq] at g4)
     have hkz : ¬ (c.b[k].no = true ∧ ofA (putA few is c.b[k].a) ∈ N) := fun q => g4 q.2
     refine go_skip ?_
     refine go_blk ?_
     refine go_region rfl ?_
     refine go_pure0 Tk rfl rfl rfl ?_
     refine go_pure0 Tk rfl rfl rfl ?_
     refine go_nil ?_
     refine go_i64 64 rfl (by omega) (by omega) ?_
     refine go_back (k + 1) ⟨rfl, rfl, rfl, rfl, rfl, rfl, rfl, rfl, trivial⟩ (by repeat constructor) (by repeat constructor) (⟨by omega, mem_take_next (by omega) hz hkz⟩) (by omega)
   ·intro g3
    (try simp only [decide_eq_true_eq, decide_eq_false_iff_not, Bool.not_eq_true', Bool.not_eq_false', Bool.not_eq_eq_eq_not, Bool.not_true, Bool.not_false, Int.not_lt, Int.not_le, beq_iff_eq, beq_eq_false_iff_ne, ne_eq] at g3)
    have hkz : ¬ (c.b[k].no = true ∧ ofA (putA few is c.b[k].a) ∈ N) := fun q => by rw [g3] at q; cases q.1
    refine go_skip1 rfl rfl ?_
    refine go_skip2 rfl (by repeat constructor) (by repeat constructor) rfl ?_
    refine go_skip2 rfl (by repeat constructor) (by repeat constructor) rfl ?_
    refine go_skip0f rfl satA rfl ?_
    refine go_skip0 rfl rfl ?_
    refine go_pure1 Tk rfl rfl rfl ?_
    refine go_nil ?_
    refine go_env [(2, _), (3, _), (7, _), (8, _), (10, _), (62, _), (63, _), (64, _), (71, _), (72, _), (73, _), (74, _), (75, _), (76, _)] ⟨rfl, rfl, rfl, rfl, rfl, rfl, rfl, rfl, rfl, rfl, rfl, rfl, rfl, rfl, trivial⟩ ?_
    refine go_cond_f rfl ?_
    refine go_skip ?_
    refine go_blk ?_
    refine go_region rfl ?_
    refine go_pure0 Tk rfl rfl rfl ?_
    refine go_pure0 Tk rfl rfl rfl ?_
    refine go_nil ?_
    refine go_i64 64 rfl (by omega) (by omega) ?_
    refine go_back (k + 1) ⟨rfl, rfl, rfl, rfl, rfl, rfl, rfl, rfl, trivial⟩ (by repeat constructor) (by repeat constructor) (⟨by omega, mem_take_next (by omega) hz hkz⟩) (by omega)
  ·intro hq1
   refine go_exit rfl ?_
   refine go_seq ?_
   refine go_region rfl ?_
   refine go_pure0 Tk rfl rfl rfl ?_
   refine go_nil ?_
   refine go_env [(3, _), (8, _), (10, _), (78, _)] ⟨rfl, rfl, rfl, rfl, trivial⟩ ?_
   refine go_cond rfl ?_ ?_
   ·intro g5
    (try simp only [decide_eq_true_eq, decide_eq_false_iff_not, Bool.not_eq_true', Bool.not_eq_false', Bool.not_eq_eq_eq_not, Bool.not_true, Bool.not_false, Int.not_lt, Int.not_le, beq_iff_eq, beq_eq_false_iff_ne, ne_eq] at g5)
    have hok : okN N c.b (few, is) = true := okN_yes (by omega) hz
    rw [if_pos ⟨hok, g5⟩, List.length_singleton] at hlen
    refine go_draw ([cl bo 0 [.pointer (some ⟨b, 0, none⟩)], cl bC 0 [.int .u32 c.h.p, .slice CA c.h.a.length cc, .slice CB c.b.length cd]]) ([]) [0, 2] (SL.pre [(1, 1), (2, 0), (2, 2), (0, 3), (0, 4)] .nil) mixed rfl (by kernel_rfl) ?_
    refine go_pure1 Tk rfl rfl rfl ?_
    refine go_val2a rfl (ldv Tk rfl rfl rfl) rfl ?_
    refine go_val2a rfl (ldv Tk rfl rfl rfl) rfl ?_
    refine go_call (choiceBecomes bH few is hf hi c.h CA cc (by have := H.lh; omega) H.vh) rfl rfl (by rfl) rfl (by repeat constructor) (by repeat constructor) (fun _ v Ps' Os' hq => by obtain ⟨A6, c6, rfl, rfl, rfl⟩ := hq; exact satS (by repeat constructor) (by repeat constructor)) ?_
    rintro _ _ _ ⟨A6, c6, rfl, rfl, rfl⟩
    refine go_call (relPut b out (ofA (putA few is c.h)) A6 c6 ho (by omega) (by have h1 := ofA_len (putA few is c.h); have h2 := H.lh; rw [putA_len] at h1; omega)) rfl rfl (by rfl) rfl (by repeat constructor) (by repeat constructor) (fun h => nomatch h) ?_
    rintro _ _ _ ⟨rfl, rfl, rfl⟩
    refine go_nil ?_
    refine go_end ⟨rfl, rfl⟩ _ _ (res0 (by rfl)) ⟨rfl, rfl, by rw [hgo, if_pos ⟨hok, g5⟩]⟩ (by repeat constructor) (by repeat constructor)
   ·intro g5
    (try simp only [decide_eq_true_eq, decide_eq_false_iff_not, Bool.not_eq_true', Bool.not_eq_false', Bool.not_eq_eq_eq_not, Bool.not_true, Bool.not_false, Int.not_lt, Int.not_le, beq_iff_eq, beq_eq_false_iff_ne, ne_eq] at g5)
    rw [if_neg (fun q => by rw [g5] at q; cases q.2)] at hgo
    refine go_skip ?_
    refine go_end ⟨rfl, rfl⟩ _ _ (res0 (by rfl)) ⟨rfl, rfl, by rw [hgo]⟩ (by repeat constructor) (by repeat constructor)

end Go.Proofs.YtkhddfknpegpmaaGreat.SL

/- Contracts of functions of the program (Joinf): what each call comes to, for the laws' proofs. -/
set_option linter.unusedVariables false
set_option linter.unusedSimpArgs false
namespace Go.Proofs.YtkhddfknpegpmaaGreat.SL
open Go 

theorem headsFrom (c : Cl) (CA : Option Addr) (cc : Nat) (CB : Option Addr) (cd : Nat) (bC bF bf bg bn bo b : Nat) (pf pg pn : Option Addr) (F R N : List Fa) (H : JoinH c F R N) : ∀ (n i : Nat) (few : List Int) (is : List Bool) (new : Bool) (out : List Fa) (hn : c.b.length - i = n) (hil : i ≤ c.b.length) (hf : few.length = 16) (hi : is.length = 16) (hv : ∀ v ∈ few, 0 ≤ v) (ho : rises out) (hlen : out.length + (goL c F R N (c.b.drop i) (few, is) new).length ≤ 50000000),
    Spec Tryz.prog 47 #[.int .i64 (i : Int), .agg (hc (few) (is) []).toArray, .bool (new), .pointer (some ⟨bC, 0, none⟩), .pointer (some ⟨bF, 0, none⟩), .pointer (some ⟨bf, 0, none⟩), .pointer (some ⟨bg, 0, none⟩), .pointer (some ⟨bn, 0, none⟩), .pointer (some ⟨bo, 0, none⟩)] [cl bC 0 [.int .u32 c.h.p, .slice CA c.h.a.length cc, .slice CB c.b.length cd], sl tTm CA cc c.h.a, sl tLi CB cd c.b, cl bF 0 [.func (.func 47) #[] #[.pointer (some ⟨bC, 0, none⟩), .pointer (some ⟨bF, 0, none⟩), .pointer (some ⟨bf, 0, none⟩), .pointer (some ⟨bg, 0, none⟩), .pointer (some ⟨bn, 0, none⟩), .pointer (some ⟨bo, 0, none⟩)]], cl bf 0 [.pointer pf], cl bg 0 [.pointer pg], cl bn 0 [.pointer pn], cl bo 0 [.pointer (some ⟨b, 0, none⟩)], relN pf F, relN pg R, relN pn N] [relO b out] (fun v Ps' Os' => v = .tuple #[] ∧ Ps' = [] ∧ Os' = [relO b ((goL c F R N (c.b.drop (i)) (few, is) (new)).foldl fput (out))])
  | 0, i, few, is, new, out, hn, hil, hf, hi, hv, ho, hlen => heads1 c CA cc CB cd bC bF bf bg bn bo b pf pg pn F R N H i few is new out hil hf hi hv ho hlen (fun h => absurd h (by omega))
  | n + 1, i, few, is, new, out, hn, hil, hf, hi, hv, ho, hlen => heads1 c CA cc CB cd bC bF bf bg bn bo b pf pg pn F R N H i few is new out hil hf hi hv ho hlen (fun h few' is' new' out' h1 h2 h3 h4 h5 h6 =>
      headsFrom c CA cc CB cd bC bF bf bg bn bo b pf pg pn F R N H n (i + 1) few' is' new' out' (by omega) h1 h2 h3 h4 h5 h6)
theorem goL_args (c : Cl) (F R N : List Fa) : ∀ (r : List Li) (ch : Ch) (new : Bool), ∀ x ∈ goL c F R N r ch new, x.a.length ≤ c.h.a.length
  | [], ch, new => by
    unfold goL
    split
    · intro x hx
      rw [List.mem_singleton] at hx
      subst hx
      exact Nat.le_trans (ofA_len _) (by rw [putA_len]; exact Nat.le_refl _)
    · intro x hx; cases hx
  | l :: r, ch, new => by
    unfold goL
    split
    · exact goL_args c F R N r ch new
    · intro x hx
      rw [List.mem_flatMap] at hx
      obtain ⟨f, _, hx⟩ := hx
      exact goL_args c F R N r _ _ x hx
structure JoinS (F R N : List Fa) : Prop where
  nF : F.length ≤ 50000000
  bF : ∀ x ∈ F, x.a.length ≤ 100000
  oF : ∀ x ∈ F, x.ok
  rR : rises R
  nR : R.length ≤ 50000000
  rN : rises N
  nN : N.length ≤ 50000000
theorem JoinS.h {c : Cl} {F R N : List Fa} (h : JoinS F R N) (ho : c.ok) (hr : (rightC [c]).2 = 0) : JoinH c F R N := by
  obtain ⟨h1, h2, _⟩ := right_one hr
  obtain ⟨g1, g2, g3⟩ := mayC_of h1
  exact ⟨may_vok g2 ho.1, fun l hl => may_vok (g3 l hl) (ho.2 l hl), Nat.le_trans (may_len6 g2) (by omega), fun l hl => Nat.le_trans (may_len6 (g3 l hl)) (by omega), fun l hl t ht => ((ho.2 l hl).2 t ht).1,
    h.nF, h.bF, fun x hx n hn => ((h.oF x hx).2 n hn).1, h.rR, h.nR, h.rN, h.nN⟩
theorem headsC_args {c : Cl} {F R N : List Fa} {some : Bool} (x : Fa) (hx : x ∈ headsC c F R N some) : x.a.length ≤ 6 := by
  unfold headsC at hx
  split at hx
  · rename_i h
    exact Nat.le_trans (goL_args c F R N _ _ _ x (mem_fof.1 hx)) (may_len6 (mayC_of (right_one h).1).2.1)
  · cases hx

set_option maxHeartbeats 2000000 in
set_option maxRecDepth 20000 in
theorem joinHeads (c : Cl) (CA : Option Addr) (cc : Nat) (CB : Option Addr) (cd : Nat) (pf pg pn : Option Addr) (F R N : List Fa) (hs : JoinS F R N) (hok : c.ok) (some : Bool) (hb : (goL c F R N c.b ch0 (!some)).length ≤ 50000000) :
    Spec Tryz.prog 30 #[.agg #[.int .u32 c.h.p, .slice CA c.h.a.length cc, .slice CB c.b.length cd], .pointer pf, .pointer pg, .pointer pn, .bool some] [sl tTm CA cc c.h.a, sl tLi CB cd c.b, relN pf F, relN pg R, relN pn N] [] (fun v Ps' Os' => ∃ A k, v = .slice A (headsC c F R N some).length k ∧ Ps' = [] ∧ Os' = [dl tFa 52 A k (headsC c F R N some)]) := by
 refine spec_of (fn := Tryz.f30) (args := [.agg #[.int .u32 c.h.p, .slice CA c.h.a.length cc, .slice CB c.b.length cd], .pointer pf, .pointer pg, .pointer pn, .bool some]) 32 Tryz.func30 rfl (by kernel_rfl) Tryz.ntmps30 (Nat.le_of_ble_eq_true rfl) (fun w0 hp0 hf0 => ?_)
 refine go_seq ?_
 refine go_region rfl ?_
 refine go_box Tk rfl rfl rfl rfl (by rfl) rfl rfl (fun h => nomatch h) ?_
 intro bC
 refine go_box Tk rfl rfl rfl rfl (by rfl) rfl rfl (fun h => nomatch h) ?_
 intro bf
 refine go_box Tk rfl rfl rfl rfl (by rfl) rfl rfl (fun h => nomatch h) ?_
 intro bg
 refine go_box Tk rfl rfl rfl rfl (by rfl) rfl rfl (fun h => nomatch h) ?_
 intro bn
 refine go_pure0 Tk rfl rfl rfl ?_
 refine go_nil ?_
 refine go_freeze_pt (b := bC) (by repeat constructor) ?_
 refine go_freeze_pt (b := bf) (by repeat constructor) ?_
 refine go_freeze_pt (b := bg) (by repeat constructor) ?_
 refine go_freeze_pt (b := bn) (by repeat constructor) ?_
 refine go_env [(4, _), (5, _), (6, _), (7, _), (8, _)] ⟨rfl, rfl, rfl, rfl, rfl, trivial⟩ ?_
 refine go_seq ?_
 refine go_seq ?_
 refine go_region rfl ?_
 refine go_val0 rfl (ldv Tk rfl rfl rfl) rfl ?_
 refine go_bslice Tk rfl rfl rfl rfl rfl rfl rfl rfl (fun h => nomatch h) ?_
 intro bs
 refine go_lit tCl (b := bs) [c] (by repeat constructor) (fun hp a => ⟨[.int .u32 c.h.p, .slice CA c.h.a.length cc, .slice CB c.b.length cd], [], rfl, tCl_mk (a (sl tTm CA cc c.h.a) (by repeat constructor)) (a (sl tLi CB cd c.b) (by repeat constructor)), rfl⟩) (by simp) ?_
 refine go_call (safeRight (Option.some ⟨bs, 0, none⟩) 1 [c]) rfl rfl (by rfl) rfl (by repeat constructor) (by repeat constructor) (fun h => nomatch h) ?_
 rintro _ _ _ ⟨rfl, rfl, rfl⟩
 refine go_pure0 Tk rfl rfl rfl ?_
 refine go_pure0 Tk rfl rfl rfl ?_
 refine go_pure0 Tk rfl rfl rfl ?_
 refine go_pure0 Tk rfl rfl rfl ?_
 refine go_pure0 Tk rfl rfl rfl ?_
 refine go_nil ?_
 refine go_env [(4, _), (5, _), (6, _), (7, _), (8, _), (12, _)] ⟨rfl, rfl, rfl, rfl, rfl, rfl, trivial⟩ ?_
 refine go_seq ?_
 refine go_region rfl ?_
 refine go_pure0 Tk rfl rfl rfl ?_
 refine go_pure0 Tk rfl rfl rfl ?_
 refine go_nil ?_
 refine go_env [(4, _), (5, _), (6, _), (7, _), (8, _), (22, _)] ⟨rfl, rfl, rfl, rfl, rfl, rfl, trivial⟩ ?_
 refine go_condN rfl ?_ ?_
 ·intro g1
  have hc0 : headsC c F R N some = [] := by unfold headsC; rw [if_neg (by simpa using g1)]
  refine go_down_nil tFa 52 none ?_
  refine go_seq ?_
  refine go_region rfl ?_
  refine go_pure0 Tk rfl rfl rfl ?_
  refine go_nil ?_
  refine go_env [(10, _)] ⟨rfl, trivial⟩ ?_
  refine go_ret ⟨rfl, rfl⟩ _ _ (res1 (by rfl) (.tmp rfl)) ⟨none, 0, by rw [hc0]; rfl, rfl, by rw [hc0]⟩ (by repeat constructor) (by repeat constructor)
 ·intro g1
  have g1' : (rightC [c]).2 = 0 := by simpa using g1
  have hc1 : headsC c F R N some = headsL c F R N some := by unfold headsC; rw [if_pos g1']
  have H := hs.h hok g1'
  refine go_skip ?_
  refine go_seq ?_
  refine go_region rfl ?_
  refine go_call (relNew) rfl rfl (by rfl) rfl (by repeat constructor) (by repeat constructor) (fun h => nomatch h) ?_
  rintro _ _ _ ⟨b, rfl, rfl, rfl⟩
  refine go_alloc Tk rfl rfl rfl (by rfl) rfl rfl (fun h => nomatch h) ?_
  intro bo
  refine go_store Tk rfl rfl rfl rfl rfl rfl (by repeat constructor) rfl rfl (by rfl) (fun h => nomatch h) ?_
  refine go_nil ?_
  refine go_env [(4, _), (5, _), (6, _), (7, _), (8, _), (13, _)] ⟨rfl, rfl, rfl, rfl, rfl, rfl, trivial⟩ ?_
  refine go_seq ?_
  refine go_region rfl ?_
  refine go_alloc Tk rfl rfl rfl (by rfl) rfl rfl (fun h => nomatch h) ?_
  intro bF
  refine go_nil ?_
  refine go_env [(4, _), (5, _), (6, _), (7, _), (8, _), (13, _), (14, _)] ⟨rfl, rfl, rfl, rfl, rfl, rfl, rfl, trivial⟩ ?_
  refine go_seq ?_
  refine go_region rfl ?_
  refine go_pure0 Tk rfl rfl rfl ?_
  refine go_store Tk rfl rfl rfl rfl rfl rfl (by repeat constructor) rfl rfl (by rfl) (fun h => nomatch h) ?_
  refine go_nil ?_
  refine go_freeze_pt (b := bo) (by repeat constructor) ?_
  refine go_freeze_pt (b := bF) (by repeat constructor) ?_
  refine go_env [(4, _), (13, _), (14, _)] ⟨rfl, rfl, rfl, trivial⟩ ?_
  refine go_seq ?_
  refine go_region rfl ?_
  refine go_val0 rfl (ldv Tk rfl rfl rfl) rfl ?_
  refine go_val0 rfl (fun a w hp ho hf hs => build_val Tk rfl rfl rfl (by rfl) a w hf) rfl ?_
  refine go_re 26 (.agg (hc (List.replicate 16 0) (List.replicate 16 false) []).toArray) (by rfl) ?_
  refine go_pure0 Tk rfl rfl rfl ?_
  refine go_pure0 Tk rfl rfl rfl ?_
  refine go_call (headsFrom c CA cc CB cd bC bF bf bg bn bo b pf pg pn F R N H (c.b.length - 0) 0 (List.replicate 16 0) (List.replicate 16 false) (!some) [] rfl (by omega) (by simp) (by simp) (by intro v hv; rw [List.mem_replicate] at hv; omega) rises_nil (by show 0 + _ ≤ _; rw [Nat.zero_add]; exact hb)) rfl rfl (by rfl) rfl (by repeat constructor) (by repeat constructor) (fun h => nomatch h) ?_
  rintro _ _ _ ⟨rfl, rfl, rfl⟩
  refine go_same (A := relO b _) (B := relO b (headsL c F R N some)) (by repeat constructor) rfl ?_
  refine go_freeze_rel (b := b) (by repeat constructor) ?_
  refine go_ent (relN (Option.some ⟨b, 0, none⟩) (headsL c F R N some)) (fun hh hps => relN_some (hps (relP b (headsL c F R N some)) (by repeat constructor))) ?_
  refine go_nil ?_
  refine go_env [(13, _)] ⟨rfl, trivial⟩ ?_
  refine go_seq ?_
  refine go_region rfl ?_
  refine go_val0 rfl (ldv Tk rfl rfl rfl) rfl ?_
  refine go_call (relListN (Option.some ⟨b, 0, none⟩) (headsL c F R N some) (Nat.le_trans (fof_len _) hb) (fun x hx => by have := headsC_args (c := c) (F := F) (R := R) (N := N) (some := some) x (by rw [hc1]; exact hx); omega)) rfl rfl (by rfl) rfl (by repeat constructor) (by repeat constructor) (fun h => nomatch h) ?_
  rintro _ _ _ ⟨A9, c9, rfl, rfl, rfl⟩
  refine go_pure0 Tk rfl rfl rfl ?_
  refine go_nil ?_
  refine go_env [(10, _)] ⟨rfl, trivial⟩ ?_
  refine go_ret ⟨rfl, rfl⟩ _ _ (res1 (by rfl) (.tmp rfl)) ⟨A9, c9, by rw [hc1], rfl, by rw [hc1]⟩ (by repeat constructor) (by repeat constructor)

set_option maxHeartbeats 2000000 in
set_option maxRecDepth 20000 in
theorem joinHeadsAll (c : Cl) (CA : Option Addr) (cc : Nat) (CB : Option Addr) (cd : Nat) (pf pn : Option Addr) (F N : List Fa) (hs : JoinS F [] N) (hok : c.ok) (hb : (goL c F [] N c.b ch0 true).length ≤ 50000000) :
    Spec Tryz.prog 8 #[.agg #[.int .u32 c.h.p, .slice CA c.h.a.length cc, .slice CB c.b.length cd], .pointer pf, .pointer pn] [sl tTm CA cc c.h.a, sl tLi CB cd c.b, relN pf F, relN pn N] [] (fun v Ps' Os' => ∃ A k, v = .slice A (headsC c F [] N false).length k ∧ Ps' = [] ∧ Os' = [dl tFa 52 A k (headsC c F [] N false)]) := by
 refine spec_of (fn := Tryz.f8) (args := [.agg #[.int .u32 c.h.p, .slice CA c.h.a.length cc, .slice CB c.b.length cd], .pointer pf, .pointer pn]) 11 Tryz.func8 rfl (by kernel_rfl) Tryz.ntmps8 (Nat.le_of_ble_eq_true rfl) (fun w0 hp0 hf0 => ?_)
 refine go_seq ?_
 refine go_region rfl ?_
 refine go_box Tk rfl rfl rfl rfl (by rfl) rfl rfl (fun h => nomatch h) ?_
 intro bC
 refine go_pure0 Tk rfl rfl rfl ?_
 refine go_nil ?_
 refine go_freeze_pt (b := bC) (by repeat constructor) ?_
 refine go_ent (relN none []) (fun _ _ => relN_nil) ?_
 refine go_env [(1, _), (2, _), (3, _)] ⟨rfl, rfl, rfl, trivial⟩ ?_
 refine go_seq ?_
 refine go_region rfl ?_
 refine go_val0 rfl (ldv Tk rfl rfl rfl) rfl ?_
 refine go_pure0 Tk rfl rfl rfl ?_
 refine go_pure0 Tk rfl rfl rfl ?_
 refine go_call (joinHeads c CA cc CB cd pf none pn F [] N hs hok false hb) rfl rfl (by rfl) rfl (by repeat constructor) (by repeat constructor) (fun h => nomatch h) ?_
 rintro _ _ _ ⟨A9, c9, rfl, rfl, rfl⟩
 refine go_pure0 Tk rfl rfl rfl ?_
 refine go_nil ?_
 refine go_env [(6, _)] ⟨rfl, trivial⟩ ?_
 refine go_ret ⟨rfl, rfl⟩ _ _ (res1 (by rfl) (.tmp rfl)) ⟨A9, c9, rfl, rfl, rfl⟩ (by repeat constructor) (by repeat constructor)

set_option maxHeartbeats 2000000 in
set_option maxRecDepth 20000 in
theorem joinNews (c : Cl) (CA : Option Addr) (cc : Nat) (CB : Option Addr) (cd : Nat) (pf pg pn : Option Addr) (F R N : List Fa) (hs : JoinS F R N) (hok : c.ok) (hb : (goL c F R N c.b ch0 false).length ≤ 50000000) :
    Spec Tryz.prog 10 #[.agg #[.int .u32 c.h.p, .slice CA c.h.a.length cc, .slice CB c.b.length cd], .pointer pf, .pointer pg, .pointer pn] [sl tTm CA cc c.h.a, sl tLi CB cd c.b, relN pf F, relN pg R, relN pn N] [] (fun v Ps' Os' => ∃ A k, v = .slice A (headsC c F R N true).length k ∧ Ps' = [] ∧ Os' = [dl tFa 52 A k (headsC c F R N true)]) := by
 refine spec_of (fn := Tryz.f10) (args := [.agg #[.int .u32 c.h.p, .slice CA c.h.a.length cc, .slice CB c.b.length cd], .pointer pf, .pointer pg, .pointer pn]) 14 Tryz.func10 rfl (by kernel_rfl) Tryz.ntmps10 (Nat.le_of_ble_eq_true rfl) (fun w0 hp0 hf0 => ?_)
 refine go_seq ?_
 refine go_region rfl ?_
 refine go_box Tk rfl rfl rfl rfl (by rfl) rfl rfl (fun h => nomatch h) ?_
 intro bC
 refine go_pure0 Tk rfl rfl rfl ?_
 refine go_nil ?_
 refine go_freeze_pt (b := bC) (by repeat constructor) ?_
 refine go_env [(1, _), (2, _), (3, _), (4, _)] ⟨rfl, rfl, rfl, rfl, trivial⟩ ?_
 refine go_seq ?_
 refine go_region rfl ?_
 refine go_val0 rfl (ldv Tk rfl rfl rfl) rfl ?_
 refine go_pure0 Tk rfl rfl rfl ?_
 refine go_pure0 Tk rfl rfl rfl ?_
 refine go_pure0 Tk rfl rfl rfl ?_
 refine go_call (joinHeads c CA cc CB cd pf pg pn F R N hs hok true hb) rfl rfl (by rfl) rfl (by repeat constructor) (by repeat constructor) (fun h => nomatch h) ?_
 rintro _ _ _ ⟨A9, c9, rfl, rfl, rfl⟩
 refine go_pure0 Tk rfl rfl rfl ?_
 refine go_nil ?_
 refine go_env [(8, _)] ⟨rfl, trivial⟩ ?_
 refine go_ret ⟨rfl, rfl⟩ _ _ (res1 (by rfl) (.tmp rfl)) ⟨A9, c9, rfl, rfl, rfl⟩ (by repeat constructor) (by repeat constructor)

end Go.Proofs.YtkhddfknpegpmaaGreat.SL
