/- Contracts of functions of the program (Law13d): what each call comes to, for the laws' proofs. -/
import Derived.Test.YtkhddfknpegpmaaMG
set_option linter.unusedVariables false
set_option linter.unusedSimpArgs false
namespace Go.Proofs.Ytkhddfknpegpmaa.SL
open Go 

set_option maxHeartbeats 2000000 in
set_option maxRecDepth 20000 in
theorem law13renamed (a : Am) (AA : Option Addr) (ac : Nat) (ga : a.ok) (by_ : Int) (hb : 0 ≤ by_ ∧ by_ < 256) (hn : a.a.length ≤ 1000000) :
    Spec Try.prog 16 #[.agg #[.int .u32 a.p, .slice AA a.a.length ac], .int .u8 by_] [sl tTm AA ac a.a] [] (fun v Ps' Os' => ∃ A c, v = .agg #[.int .u32 a.p, .slice A (renA by_ a).a.length c] ∧ Ps' = [sl tTm A c (renA by_ a).a] ∧ Os' = []) := by
 refine spec_of (fn := Try.f16) (args := [.agg #[.int .u32 a.p, .slice AA a.a.length ac], .int .u8 by_]) 44 Try.func16 rfl (by kernel_rfl) Try.ntmps16 (Nat.le_of_ble_eq_true rfl) (fun w0 hp0 hf0 => ?_)
 refine go_seq ?_
 refine go_region rfl ?_
 refine go_box Tk rfl rfl rfl rfl (by rfl) rfl rfl (fun h => nomatch h) ?_
 intro b0
 refine go_freeze_pt (b := b0) (by repeat constructor) ?_
 refine go_alloc Tk rfl rfl rfl (by rfl) rfl rfl (fun h => nomatch h) ?_
 intro bR
 refine go_nil ?_
 refine go_env [(1, _), (2, _), (4, _)] ⟨rfl, rfl, rfl, trivial⟩ ?_
 refine go_seq ?_
 refine go_region rfl ?_
 refine go_pure0 Tk rfl rfl rfl ?_
 refine go_val0 rfl (ldv Tk rfl rfl rfl) rfl ?_
 refine go_val0 rfl (fun a w hp ho hf hs => build_val Tk rfl rfl rfl (by rfl) a w hf) rfl ?_
 refine go_alloc Tk rfl rfl rfl (by rfl) rfl rfl (fun h => nomatch h) ?_
 intro bO
 refine go_store Tk rfl rfl rfl rfl rfl rfl (by repeat constructor) rfl rfl (by rfl) (fun h => nomatch h) ?_
 refine go_nil ?_
 refine go_env [(1, _), (2, _), (4, _), (5, _)] ⟨rfl, rfl, rfl, rfl, trivial⟩ ?_
 refine go_seq ?_
 refine go_seq ?_
 refine go_len (xs := a.a) (by repeat constructor) (fun l0 m0 => ?_)
 refine go_own_nil tTm 62 none ?_
 rw [show ([] : List Tm) = (a.a.take 0).map (renT by_) from rfl]
 refine go_region rfl ?_
 refine go_pure0 Tk rfl rfl rfl ?_
 refine go_nil ?_
 refine go_env [(1, _), (2, _), (4, _), (5, _), (6, _)] ⟨rfl, rfl, rfl, rfl, rfl, trivial⟩ ?_
 refine go_block ?_
 refine go_loop' (X := Nat × Option Addr × Nat) (fun x => [(6, .int .i64 (x.1 : Int))]) [(1, _), (2, _), (4, _), (5, _)] (fun x => [pt bO 25 [.int .u32 a.p, .slice x.2.1 ((a.a.take x.1).map (renT by_)).length x.2.2], ol tTm 62 x.2.1 x.2.2 ((a.a.take x.1).map (renT by_))]) (fun x => x.1 ≤ a.a.length) (fun x => a.a.length - x.1) ((0, none, 0)) ⟨rfl, rfl, rfl, rfl, rfl, trivial⟩ (by repeat constructor) (by omega) ?_
 intro ⟨k, A1, c1⟩ hk
 simp only at hk ⊢
 have hkl : ((a.a.take k).map (renT by_)).length = k := by simp; omega
 refine go_seq ?_
 refine go_seq ?_
 refine go_region rfl ?_
 refine go_pure0 Tk rfl rfl rfl ?_
 refine go_pure0 Tk rfl rfl rfl ?_
 refine go_val0 rfl (ldv Tk rfl rfl rfl) rfl ?_
 refine go_pure0 Tk rfl rfl rfl ?_
 refine go_pure0 Tk rfl rfl rfl ?_
 refine go_nil ?_
 refine go_env [(1, _), (2, _), (4, _), (5, _), (6, _), (15, _)] ⟨rfl, rfl, rfl, rfl, rfl, rfl, trivial⟩ ?_
 refine go_condD rfl ?_ ?_
 ·intro hq1
  refine go_skip ?_
  refine go_seq ?_
  refine go_block ?_
  refine go_seq ?_
  refine go_elem_tm (xs := a.a) (by repeat constructor) (k) (List.getElem?_eq_getElem (by omega)) (fun b1 o1 hA => ?_); cases hA
  refine go_region rfl ?_
  refine go_pure0 Tk rfl rfl rfl ?_
  refine go_val0 rfl (ldv Tk rfl rfl rfl) rfl ?_
  refine go_pure0 Tk rfl rfl rfl ?_
  refine go_val0 rfl (idx_val Tk rfl rfl rfl rfl rfl (by omega)) rfl ?_
  refine go_val0 rfl (ldv Tk rfl rfl rfl) rfl ?_
  refine go_alloc Tk rfl rfl rfl (by rfl) rfl rfl (fun h => nomatch h) ?_
  intro bT
  refine go_store Tk rfl rfl rfl rfl rfl rfl (by repeat constructor) rfl rfl (by rfl) (fun h => nomatch h) ?_
  refine go_nil ?_
  refine go_env [(1, _), (2, _), (4, _), (5, _), (6, _), (7, _)] ⟨rfl, rfl, rfl, rfl, rfl, rfl, trivial⟩ ?_
  refine go_seq ?_
  refine go_seq ?_
  obtain ⟨hto1, hto2⟩ := ga.2 a.a[k] (List.getElem_mem _)
  refine go_region rfl ?_
  refine go_pure0 Tk rfl rfl rfl ?_
  refine go_val0 rfl (ldv Tk rfl rfl rfl) rfl ?_
  refine go_pure0 Tk rfl rfl rfl ?_
  refine go_known 25 rfl ?_ ?_
  ·intro g1
   (try simp only [decide_eq_true_eq, decide_eq_false_iff_not, Bool.not_eq_true', Bool.not_eq_false', Bool.not_eq_eq_eq_not, Bool.not_true, Bool.not_false, Int.not_lt, Int.not_le, beq_iff_eq, beq_eq_false_iff_ne, ne_eq] at g1)
   refine go_pure0 Tk rfl rfl rfl ?_
   refine go_val0 rfl (ldv Tk rfl rfl rfl) rfl ?_
   refine go_pure0 Tk rfl rfl rfl ?_
   refine go_pure0 Tk rfl rfl rfl ?_
   refine go_nil ?_
   refine go_env [(1, _), (2, _), (4, _), (5, _), (6, _), (7, _), (26, _), (27, _), (28, _), (29, _)] ⟨rfl, rfl, rfl, rfl, rfl, rfl, rfl, rfl, rfl, rfl, trivial⟩ ?_
   refine go_cond rfl ?_ ?_
   ·intro g2
    (try simp only [decide_eq_true_eq, decide_eq_false_iff_not, Bool.not_eq_true', Bool.not_eq_false', Bool.not_eq_eq_eq_not, Bool.not_true, Bool.not_false, Int.not_lt, Int.not_le, beq_iff_eq, beq_eq_false_iff_ne, ne_eq] at g2)
    refine go_region rfl ?_
    refine go_pure0 Tk rfl rfl rfl ?_
    refine go_val0 rfl (ldv Tk rfl rfl rfl) rfl ?_
    refine go_pure0 Tk rfl rfl rfl ?_
    refine go_pure0 Tk rfl rfl rfl ?_
    refine go_re 33 (.int .u32 by_) (by show some (Value.int _ _) = _; rw [wrap32 (by omega)]) ?_
    refine go_pure0 Tk rfl rfl rfl ?_
    refine go_re 34 (.int .u32 (a.a[k].n + by_)) (by show some (Value.int _ _) = _; rw [wrap32 (by omega)]) ?_
    refine go_val0 rfl (rem_val rfl rfl rfl (by omega)) rfl ?_
    refine go_re 35 (.int .u32 ((a.a[k].n + by_) % 16)) (by show some (Value.int _ _) = _; rw [Int.tmod_eq_emod_of_nonneg (by omega)]) ?_
    refine go_pure0 Tk rfl rfl rfl ?_
    refine go_store Tk rfl rfl rfl rfl rfl rfl (by repeat constructor) rfl rfl (by rfl) (fun h => nomatch h) ?_
    refine go_nil ?_
    refine go_env [(1, _), (2, _), (4, _), (5, _), (6, _), (7, _), (26, _), (27, _), (28, _)] ⟨rfl, rfl, rfl, rfl, rfl, rfl, rfl, rfl, rfl, trivial⟩ ?_
    refine go_same (A := pt bT 62 [_, _]) (B := pt bT 62 [.bool (renT by_ a.a[k]).v, .int .u32 (renT by_ a.a[k]).n]) (by repeat constructor) (by first | rw [renT_yes g1 g2] | rw [renT_no (fun _ => by omega)] | rw [renT_no (fun q => by rw [g1] at q; cases q)]) ?_
    refine go_region rfl ?_
    refine go_pure0 Tk rfl rfl rfl ?_
    refine go_val0 rfl (ldv Tk rfl rfl rfl) rfl ?_
    refine go_val0 rfl (ldv Tk rfl rfl rfl) rfl ?_
    refine go_bslice Tk rfl rfl rfl rfl rfl rfl rfl rfl (fun h => nomatch h) ?_
    intro b1
    refine go_append1 (T := tTm) (xs := ((a.a.take k).map (renT by_))) Tk (renT by_ a.a[k]) rfl rfl rfl rfl rfl rfl rfl rfl rfl (by repeat constructor) (by repeat constructor) rfl ent_tm (by omega) (by first | exact (fun _ _ _ => satA) | exact (fun h => nomatch h) | exact (fun h => nomatch (Eq.symm h).trans (show _ = false by kernel_rfl))) ?_
    intro A3 c3
    refine go_pure0 Tk rfl rfl rfl ?_
    refine go_store Tk rfl rfl rfl rfl rfl rfl (by repeat constructor) rfl rfl (by rfl) (fun h => nomatch h) ?_
    refine go_nil ?_
    refine go_env [(1, _), (2, _), (4, _), (5, _), (6, _), (26, _), (27, _), (28, _)] ⟨rfl, rfl, rfl, rfl, rfl, rfl, rfl, rfl, trivial⟩ ?_
    refine go_blk ?_
    refine go_region rfl ?_
    refine go_pure0 Tk rfl rfl rfl ?_
    refine go_pure0 Tk rfl rfl rfl ?_
    refine go_pure0 Tk rfl rfl rfl ?_
    refine go_nil ?_
    refine go_i64 6 rfl (by omega) (by omega) ?_
    rw [show ((a.a.take k).map (renT by_)) ++ [_] = (a.a.take (k + 1)).map (renT by_) from by rw [List.take_succ_eq_append_getElem (by omega), List.map_append, List.map_cons]; rfl]
    refine go_back (k + 1, A3, c3) ⟨rfl, rfl, rfl, rfl, rfl, trivial⟩ (by repeat constructor) (by repeat constructor) (by show k + 1 ≤ _; omega) (by show a.a.length - (k + 1) < a.a.length - k; omega)
   ·intro g2
    (try simp only [decide_eq_true_eq, decide_eq_false_iff_not, Bool.not_eq_true', Bool.not_eq_false', Bool.not_eq_eq_eq_not, Bool.not_true, Bool.not_false, Int.not_lt, Int.not_le, beq_iff_eq, beq_eq_false_iff_ne, ne_eq] at g2)
    refine go_skip ?_
    refine go_same (A := pt bT 62 [_, _]) (B := pt bT 62 [.bool (renT by_ a.a[k]).v, .int .u32 (renT by_ a.a[k]).n]) (by repeat constructor) (by first | rw [renT_yes g1 g2] | rw [renT_no (fun _ => by omega)] | rw [renT_no (fun q => by rw [g1] at q; cases q)]) ?_
    refine go_region rfl ?_
    refine go_pure0 Tk rfl rfl rfl ?_
    refine go_val0 rfl (ldv Tk rfl rfl rfl) rfl ?_
    refine go_val0 rfl (ldv Tk rfl rfl rfl) rfl ?_
    refine go_bslice Tk rfl rfl rfl rfl rfl rfl rfl rfl (fun h => nomatch h) ?_
    intro b2
    refine go_append1 (T := tTm) (xs := ((a.a.take k).map (renT by_))) Tk (renT by_ a.a[k]) rfl rfl rfl rfl rfl rfl rfl rfl rfl (by repeat constructor) (by repeat constructor) rfl ent_tm (by omega) (by first | exact (fun _ _ _ => satA) | exact (fun h => nomatch h) | exact (fun h => nomatch (Eq.symm h).trans (show _ = false by kernel_rfl))) ?_
    intro A3 c3
    refine go_pure0 Tk rfl rfl rfl ?_
    refine go_store Tk rfl rfl rfl rfl rfl rfl (by repeat constructor) rfl rfl (by rfl) (fun h => nomatch h) ?_
    refine go_nil ?_
    refine go_env [(1, _), (2, _), (4, _), (5, _), (6, _), (26, _), (27, _), (28, _)] ⟨rfl, rfl, rfl, rfl, rfl, rfl, rfl, rfl, trivial⟩ ?_
    refine go_blk ?_
    refine go_region rfl ?_
    refine go_pure0 Tk rfl rfl rfl ?_
    refine go_pure0 Tk rfl rfl rfl ?_
    refine go_pure0 Tk rfl rfl rfl ?_
    refine go_nil ?_
    refine go_i64 6 rfl (by omega) (by omega) ?_
    rw [show ((a.a.take k).map (renT by_)) ++ [_] = (a.a.take (k + 1)).map (renT by_) from by rw [List.take_succ_eq_append_getElem (by omega), List.map_append, List.map_cons]; rfl]
    refine go_back (k + 1, A3, c3) ⟨rfl, rfl, rfl, rfl, rfl, trivial⟩ (by repeat constructor) (by repeat constructor) (by show k + 1 ≤ _; omega) (by show a.a.length - (k + 1) < a.a.length - k; omega)
  ·intro g1
   (try simp only [decide_eq_true_eq, decide_eq_false_iff_not, Bool.not_eq_true', Bool.not_eq_false', Bool.not_eq_eq_eq_not, Bool.not_true, Bool.not_false, Int.not_lt, Int.not_le, beq_iff_eq, beq_eq_false_iff_ne, ne_eq] at g1)
   refine go_skip0 rfl rfl ?_
   refine go_skip0 rfl rfl ?_
   refine go_skip0 rfl rfl ?_
   refine go_pure0 Tk rfl rfl rfl ?_
   refine go_nil ?_
   refine go_env [(1, _), (2, _), (4, _), (5, _), (6, _), (7, _), (26, _), (27, _), (28, _), (29, _)] ⟨rfl, rfl, rfl, rfl, rfl, rfl, rfl, rfl, rfl, rfl, trivial⟩ ?_
   refine go_cond_f rfl ?_
   refine go_skip ?_
   refine go_same (A := pt bT 62 [_, _]) (B := pt bT 62 [.bool (renT by_ a.a[k]).v, .int .u32 (renT by_ a.a[k]).n]) (by repeat constructor) (by first | rw [renT_yes g1 g2] | rw [renT_no (fun _ => by omega)] | rw [renT_no (fun q => by rw [g1] at q; cases q)]) ?_
   refine go_region rfl ?_
   refine go_pure0 Tk rfl rfl rfl ?_
   refine go_val0 rfl (ldv Tk rfl rfl rfl) rfl ?_
   refine go_val0 rfl (ldv Tk rfl rfl rfl) rfl ?_
   refine go_bslice Tk rfl rfl rfl rfl rfl rfl rfl rfl (fun h => nomatch h) ?_
   intro b3
   refine go_append1 (T := tTm) (xs := ((a.a.take k).map (renT by_))) Tk (renT by_ a.a[k]) rfl rfl rfl rfl rfl rfl rfl rfl rfl (by repeat constructor) (by repeat constructor) rfl ent_tm (by omega) (by first | exact (fun _ _ _ => satA) | exact (fun h => nomatch h) | exact (fun h => nomatch (Eq.symm h).trans (show _ = false by kernel_rfl))) ?_
   intro A3 c3
   refine go_pure0 Tk rfl rfl rfl ?_
   refine go_store Tk rfl rfl rfl rfl rfl rfl (by repeat constructor) rfl rfl (by rfl) (fun h => nomatch h) ?_
   refine go_nil ?_
   refine go_env [(1, _), (2, _), (4, _), (5, _), (6, _), (26, _), (27, _), (28, _)] ⟨rfl, rfl, rfl, rfl, rfl, rfl, rfl, rfl, trivial⟩ ?_
   refine go_blk ?_
   refine go_region rfl ?_
   refine go_pure0 Tk rfl rfl rfl ?_
   refine go_pure0 Tk rfl rfl rfl ?_
   refine go_pure0 Tk rfl rfl rfl ?_
   refine go_nil ?_
   refine go_i64 6 rfl (by omega) (by omega) ?_
   rw [show ((a.a.take k).map (renT by_)) ++ [_] = (a.a.take (k + 1)).map (renT by_) from by rw [List.take_succ_eq_append_getElem (by omega), List.map_append, List.map_cons]; rfl]
   refine go_back (k + 1, A3, c3) ⟨rfl, rfl, rfl, rfl, rfl, trivial⟩ (by repeat constructor) (by repeat constructor) (by show k + 1 ≤ _; omega) (by show a.a.length - (k + 1) < a.a.length - k; omega)
 ·intro hq1
  refine go_exit rfl ?_
  refine go_seq ?_
  have htk : a.a.take k = a.a := List.take_of_length_le (by omega)
  rw [htk]
  refine go_freeze_ol (xs := a.a.map (renT by_)) (by repeat constructor) ?_
  refine go_region rfl ?_
  refine go_val0 rfl (ldv Tk rfl rfl rfl) rfl ?_
  refine go_store Tk rfl rfl rfl rfl rfl rfl (by repeat constructor) rfl rfl (by rfl) (fun h => nomatch h) ?_
  refine go_nil ?_
  refine go_env [(4, _)] ⟨rfl, trivial⟩ ?_
  refine go_ret ⟨rfl, rfl⟩ _ _ (res1 (by rfl) (.cell rfl (rdv Tk rfl))) ⟨A1, c1, rfl, rfl, rfl⟩ (by repeat constructor) (by repeat constructor)

set_option maxHeartbeats 2000000 in
set_option maxRecDepth 20000 in
theorem lawJoinRenamed (c : Cl) (CA : Option Addr) (cc : Nat) (CB : Option Addr) (cd : Nat) (hok : c.ok) (a : List Fa) (A1 : Option Addr) (k1 : Nat) (ga : ∀ x ∈ a, x.ok) (za : a.length ≤ 140737488351232) (d : List Fa) (A3 : Option Addr) (k3 : Nat) (gd : ∀ x ∈ d, x.ok) (zd : d.length ≤ 140737488351232) (by_ : Int) (hby : 0 ≤ by_ ∧ by_ < 256) :
    Spec Try.prog 4 #[.agg #[.int .u32 c.h.p, .slice CA c.h.a.length cc, .slice CB c.b.length cd], .slice A1 a.length k1, .slice A3 d.length k3, .int .u8 by_] [sl tTm CA cc c.h.a, sl tLi CB cd c.b, sl tFa A1 k1 a, sl tFa A3 k3 d] [] (fun v Ps' Os' => v = .bool true ∧ Ps' = [] ∧ Os' = []) := by
 refine spec_of (fn := Try.f4) (args := [.agg #[.int .u32 c.h.p, .slice CA c.h.a.length cc, .slice CB c.b.length cd], .slice A1 a.length k1, .slice A3 d.length k3, .int .u8 by_]) 70 Try.func4 rfl (by kernel_rfl) Try.ntmps4 (Nat.le_of_ble_eq_true rfl) (fun w0 hp0 hf0 => ?_)
 refine go_seq ?_
 refine go_region rfl ?_
 refine go_box Tk rfl rfl rfl rfl (by rfl) rfl rfl (fun h => nomatch h) ?_
 intro bC
 refine go_pure0 Tk rfl rfl rfl ?_
 refine go_nil ?_
 refine go_freeze_pt (b := bC) (by repeat constructor) ?_
 refine go_ent (sl tFa none 0 []) (fun h _ => Sl_nil tFa h) ?_
 refine go_env [(1, _), (2, _), (3, _), (4, _)] ⟨rfl, rfl, rfl, rfl, trivial⟩ ?_
 refine go_seq ?_
 refine go_seq ?_
 refine go_region rfl ?_
 refine go_val0 rfl (ldv Tk rfl rfl rfl) rfl ?_
 refine go_pure0 Tk rfl rfl rfl ?_
 refine go_pure0 Tk rfl rfl rfl ?_
 refine go_call (law13few c CA cc CB cd A1 k1 a none 0 [] A3 k3 d (by omega) (by simp)) rfl rfl (by rfl) rfl (by repeat constructor) (by repeat constructor) (fun h => nomatch h) ?_
 rintro _ _ _ ⟨rfl, rfl, rfl⟩
 refine go_pure0 Tk rfl rfl rfl ?_
 refine go_nil ?_
 refine go_env [(1, _), (2, _), (3, _), (4, _), (17, _)] ⟨rfl, rfl, rfl, rfl, rfl, trivial⟩ ?_
 refine go_cond rfl ?_ ?_
 ·intro f1
  (try simp only [decide_eq_true_eq, decide_eq_false_iff_not, Bool.not_eq_true', Bool.not_eq_false', Bool.not_eq_eq_eq_not, Bool.not_true, Bool.not_false, Int.not_lt, Int.not_le, beq_iff_eq, beq_eq_false_iff_ne, ne_eq] at f1)
  refine go_seq ?_
  refine go_region rfl ?_
  refine go_call (lawWorks13) rfl rfl (by rfl) rfl (by repeat constructor) (by repeat constructor) (fun h => nomatch h) ?_
  rintro _ _ _ ⟨rfl, rfl, rfl⟩
  refine go_pure0 Tk rfl rfl rfl ?_
  refine go_nil ?_
  refine go_env [(8, _)] ⟨rfl, trivial⟩ ?_
  refine go_ret ⟨rfl, rfl⟩ _ _ (res1 (by rfl) (.tmp rfl)) ⟨rfl, rfl, rfl⟩ (by repeat constructor) (by repeat constructor)
 ·intro f1
  (try simp only [decide_eq_true_eq, decide_eq_false_iff_not, Bool.not_eq_true', Bool.not_eq_false', Bool.not_eq_eq_eq_not, Bool.not_true, Bool.not_false, Int.not_lt, Int.not_le, beq_iff_eq, beq_eq_false_iff_ne, ne_eq] at f1)
  refine go_skip ?_
  refine go_seq ?_
  have fp := few13_of f1
  have hall := few13_all fp ga (fun x hx => nomatch hx) gd
  have hsm := fp.2.2.1
  have hlens : a.length ≤ 60 ∧ d.length ≤ 60 := ⟨by have := fp.1; simp only [List.length_nil] at this; omega, fp.2.1⟩
  have hla : ∀ x ∈ a, x.a.length ≤ 30 := fun x hx => (hall x (List.mem_append_left _ (List.mem_append_left _ hx))).2
  have hld : ∀ x ∈ d, x.a.length ≤ 30 := fun x hx => (hall x (List.mem_append_right _ hx)).2
  have hcl := (few11_of fp.2.2.2).2.1 c (.head _)
  have hc1 := hcl.1
  have hc2 := hcl.2.1
  refine go_region rfl ?_
  refine go_alloc Tk rfl rfl rfl (by rfl) rfl rfl (fun h => nomatch h) ?_
  intro bD
  refine go_nil ?_
  refine go_env [(1, _), (2, _), (3, _), (4, _), (9, _)] ⟨rfl, rfl, rfl, rfl, rfl, trivial⟩ ?_
  refine go_seq ?_
  refine go_region rfl ?_
  refine go_pure0 Tk rfl rfl rfl ?_
  refine go_val0 rfl (ldv Tk rfl rfl rfl) rfl ?_
  refine go_pure0 Tk rfl rfl rfl ?_
  refine go_call (law13renamed c.h CA cc hok.1 by_ hby (by omega)) rfl rfl (by rfl) rfl (by repeat constructor) (by repeat constructor) (fun h => nomatch h) ?_
  rintro _ _ _ ⟨HA, hc, rfl, rfl, rfl⟩
  refine go_pure0 Tk rfl rfl rfl ?_
  refine go_store Tk rfl rfl rfl rfl rfl rfl (by repeat constructor) rfl rfl (by rfl) (fun h => nomatch h) ?_
  refine go_nil ?_
  refine go_env [(1, _), (2, _), (3, _), (4, _), (9, _)] ⟨rfl, rfl, rfl, rfl, rfl, trivial⟩ ?_
  refine go_seq ?_
  refine go_seq ?_
  refine go_len (xs := c.b) (by repeat constructor) (fun l0 m0 => ?_)
  refine go_region rfl ?_
  refine go_pure0 Tk rfl rfl rfl ?_
  refine go_val0 rfl (ldv Tk rfl rfl rfl) rfl ?_
  refine go_pure0 Tk rfl rfl rfl ?_
  refine go_pure0 Tk rfl rfl rfl ?_
  refine go_i64 27 rfl (by omega) (by omega) ?_
  refine go_pure0 Tk rfl rfl rfl ?_
  refine go_nil ?_
  refine go_own_nil tLi 44 none ?_
  rw [show ([] : List Li) = renB by_ (c.b.drop c.b.length) from by rw [List.drop_eq_nil_of_le (Nat.le_refl _)]; rfl]
  refine go_same (A := pt bD 28 _) (B := pt bD 28 [.int .u32 c.h.p, .slice HA (renA by_ c.h).a.length hc, .slice none (renB by_ (c.b.drop c.b.length)).length 0]) (by repeat constructor) (by rw [List.drop_eq_nil_of_le (Nat.le_refl _)]; rfl) ?_
  refine go_env [(1, _), (2, _), (3, _), (4, _), (9, _), (10, _)] ⟨rfl, rfl, rfl, rfl, rfl, rfl, trivial⟩ ?_
  refine go_block ?_
  refine go_loop' (X := Nat × Option Addr × Nat) (fun x => [(10, .int .i64 ((x.1 : Int) - 1))]) [(1, _), (2, _), (3, _), (4, _), (9, _)] (fun x => [pt bD 28 [.int .u32 c.h.p, .slice HA (renA by_ c.h).a.length hc, .slice x.2.1 (renB by_ (c.b.drop x.1)).length x.2.2], ol tLi 44 x.2.1 x.2.2 (renB by_ (c.b.drop x.1))]) (fun x => x.1 ≤ c.b.length) (fun x => x.1) ((c.b.length, none, 0)) ⟨rfl, rfl, rfl, rfl, rfl, rfl, trivial⟩ (by repeat constructor) (by omega) ?_
  intro ⟨n, B1, j1⟩ hn
  simp only at hn ⊢
  have hbl := renB_len by_ c.b n
  refine go_seq ?_
  refine go_seq ?_
  refine go_region rfl ?_
  refine go_pure0 Tk rfl rfl rfl ?_
  refine go_pure0 Tk rfl rfl rfl ?_
  refine go_nil ?_
  refine go_env [(1, _), (2, _), (3, _), (4, _), (9, _), (10, _), (29, _)] ⟨rfl, rfl, rfl, rfl, rfl, rfl, rfl, trivial⟩ ?_
  refine go_condD rfl ?_ ?_
  ·intro g2
   refine go_re 10 (.int .i64 ((n - 1 : Nat) : Int)) (by show some (Value.int _ _) = _; rw [show ((n - 1 : Nat) : Int) = (n : Int) - 1 by omega]) ?_
   refine go_elem_li (xs := c.b) (by repeat constructor) ((n - 1)) (List.getElem?_eq_getElem (by omega)) (fun b1 o1 A2 c2 hA => ?_); cases hA
   refine go_skip ?_
   refine go_seq ?_
   refine go_block ?_
   refine go_draw ([cl bC 0 [.int .u32 c.h.p, .slice CA c.h.a.length cc, .slice (some ⟨b1, o1, none⟩) c.b.length cd], cl b1 (o1 + (n - 1) * 3) [.bool c.b[n - 1].no, .int .u32 c.b[n - 1].a.p, .slice A2 c.b[n - 1].a.a.length c2]]) ([pt bD 28 [.int .u32 c.h.p, .slice HA (renA by_ c.h).a.length hc, .slice B1 (renB by_ (c.b.drop n)).length j1]]) [1, 3, 7, 9, 13] (SL.pre [(1, 0), (1, 2), (1, 4), (1, 8), (1, 10), (1, 14), (2, 1), (2, 3), (1, 5), (1, 6), (2, 7), (2, 9), (1, 11), (1, 12), (2, 13), (0, 15), (1, 16), (0, 17), (0, 18), (1, 19), (0, 20)] .nil) mixed rfl (by kernel_rfl) ?_
   refine go_pure1 Tk rfl rfl rfl ?_
   refine go_pure1 Tk rfl rfl rfl ?_
   refine go_pure1 Tk rfl rfl rfl ?_
   refine go_pure1 Tk rfl rfl rfl ?_
   refine go_pure1 Tk rfl rfl rfl ?_
   refine go_pure1 Tk rfl rfl rfl ?_
   refine go_val2a rfl (ldv Tk rfl rfl rfl) rfl ?_
   refine go_val2a rfl (ldv Tk rfl rfl rfl) rfl ?_
   refine go_val1 rfl (idx_val Tk rfl rfl rfl rfl rfl (by omega)) rfl ?_
   refine go_pure1 Tk rfl rfl rfl ?_
   refine go_val2a rfl (ldv Tk rfl rfl rfl) rfl ?_
   refine go_val2a rfl (ldv Tk rfl rfl rfl) rfl ?_
   refine go_val1 rfl (idx_val Tk rfl rfl rfl rfl rfl (by omega)) rfl ?_
   refine go_pure1 Tk rfl rfl rfl ?_
   refine go_val2a rfl (ldv Tk rfl rfl rfl) rfl ?_
   refine go_call (law13renamed c.b[n - 1].a A2 c2 (hok.2 _ (List.getElem_mem _)) by_ hby (by have := hcl.2.2 _ (List.getElem_mem (show n - 1 < c.b.length by omega)); omega)) rfl rfl (by rfl) rfl (by repeat constructor) (by repeat constructor) (fun _ v Ps' Os' hq => by obtain ⟨A4, c4, rfl, rfl, rfl⟩ := hq; exact satS (by repeat constructor) (by repeat constructor)) ?_
   rintro _ _ _ ⟨A4, c4, rfl, rfl, rfl⟩
   refine go_val1 rfl (fun a w hp ho hf hs => build_val Tk rfl rfl rfl (by rfl) a w hf) rfl ?_
   refine go_bslice Tk rfl rfl rfl rfl rfl rfl rfl rfl (fun _ _ => satA) ?_
   intro bL
   refine go_append1 (T := tLi) (xs := renB by_ (c.b.drop n)) Tk ((⟨c.b[n - 1].no, renA by_ c.b[n - 1].a⟩ : Li)) rfl rfl rfl rfl rfl rfl rfl rfl rfl (by repeat constructor) (by repeat constructor) rfl (ent_li (x := ⟨c.b[n - 1].no, renA by_ c.b[n - 1].a⟩) (by repeat constructor)) (by omega) (by first | exact (fun _ _ _ => satA) | exact (fun h => nomatch h) | exact (fun h => nomatch (Eq.symm h).trans (show _ = false by kernel_rfl))) ?_
   intro B2 j2
   refine go_pure1 Tk rfl rfl rfl ?_
   refine go_store Tk rfl rfl rfl rfl rfl rfl (by repeat constructor) rfl rfl (by rfl) (fun h => nomatch h) ?_
   refine go_nil ?_
   refine go_env [(1, _), (2, _), (3, _), (4, _), (9, _), (10, _)] ⟨rfl, rfl, rfl, rfl, rfl, rfl, trivial⟩ ?_
   refine go_blk ?_
   refine go_region rfl ?_
   refine go_pure0 Tk rfl rfl rfl ?_
   refine go_pure0 Tk rfl rfl rfl ?_
   refine go_pure0 Tk rfl rfl rfl ?_
   refine go_nil ?_
   refine go_i64 10 rfl (by omega) (by omega) ?_
   rw [← renB_next (by omega) hn]
   refine go_back (n - 1, B2, j2) ⟨rfl, rfl, rfl, rfl, rfl, rfl, trivial⟩ (by repeat constructor) (by repeat constructor) (by show n - 1 ≤ _; omega) (by show n - 1 < n; omega)
  ·intro g2
   refine go_exit rfl ?_
   refine go_seq ?_
   obtain rfl : n = 0 := by omega
   refine go_freeze_pt (b := bD) (by repeat constructor) ?_
   refine go_freeze_ol (xs := renB by_ (c.b.drop 0)) (by repeat constructor) ?_
   rw [show renB by_ (c.b.drop 0) = (renC by_ c).b from rfl]
   refine go_draw ([cl bC 0 [.int .u32 c.h.p, .slice CA c.h.a.length cc, .slice CB c.b.length cd]]) ([]) [0] (SL.pre [(1, 1), (1, 3), (2, 0), (0, 2), (0, 4), (0, 5), (1, 6)] .nil) mixed rfl (by kernel_rfl) ?_
   refine go_pure1 Tk rfl rfl rfl ?_
   refine go_pure1 Tk rfl rfl rfl ?_
   refine go_val2a rfl (ldv Tk rfl rfl rfl) rfl ?_
   refine go_call (relOf A1 k1 a (by omega) (fun x hx => Nat.le_trans (hla x hx) (by omega))) rfl rfl (by rfl) rfl (by repeat constructor) (by repeat constructor) (fun _ v Ps' Os' hq => by obtain ⟨r1, rfl, rfl, rfl⟩ := hq; exact satS (by repeat constructor) (by repeat constructor)) ?_
   rintro _ _ _ ⟨r1, rfl, rfl, rfl⟩
   refine go_freeze_rel (b := r1) (by repeat constructor) ?_
   refine go_ent (relN (some ⟨r1, 0, none⟩) (fof a)) (fun hh hps => relN_some (hps (relP r1 (fof a)) (by repeat constructor))) ?_
   refine go_call (relOf A3 k3 d (by omega) (fun x hx => Nat.le_trans (hld x hx) (by omega))) rfl rfl (by rfl) rfl (by repeat constructor) (by repeat constructor) (fun _ v Ps' Os' hq => by obtain ⟨r2, rfl, rfl, rfl⟩ := hq; exact satS (by repeat constructor) (by repeat constructor)) ?_
   rintro _ _ _ ⟨r2, rfl, rfl, rfl⟩
   refine go_freeze_rel (b := r2) (by repeat constructor) ?_
   refine go_ent (relN (some ⟨r2, 0, none⟩) (fof d)) (fun hh hps => relN_some (hps (relP r2 (fof d)) (by repeat constructor))) ?_
   refine go_call (joinHeadsAll c CA cc CB cd (some ⟨r1, 0, none⟩) (some ⟨r2, 0, none⟩) (fof a) (fof d) (js_small (F := a) (R := []) (N := d) (fun x hx => ⟨ga x hx, Nat.le_trans (hla x hx) (by omega)⟩) (by omega) (by simp) (by omega)) hok (Nat.le_trans (small_pow hsm (Nat.le_trans (fof_len a) (by simp only [List.length_nil]; omega)) _) (by omega))) rfl rfl (by rfl) rfl (by repeat constructor) (by repeat constructor) (fun h => nomatch h) ?_
   rintro _ _ _ ⟨D1, e1, rfl, rfl, rfl⟩
   refine go_freeze_dl (T := tFa) (A := D1) (xs := headsC c (fof a) [] (fof d) false) (by repeat constructor) ?_
   refine go_pure1 Tk rfl rfl rfl ?_
   refine go_nil ?_
   refine go_env [(1, _), (2, _), (9, _), (11, _)] ⟨rfl, rfl, rfl, rfl, trivial⟩ ?_
   refine go_seq ?_
   refine go_draw ([cl bD 0 [.int .u32 c.h.p, .slice HA (renA by_ c.h).a.length hc, .slice B1 (renC by_ c).b.length j1]]) ([]) [0] (SL.pre [(1, 1), (1, 3), (2, 0), (0, 2), (0, 4), (0, 5), (1, 6)] .nil) mixed rfl (by kernel_rfl) ?_
   refine go_pure1 Tk rfl rfl rfl ?_
   refine go_pure1 Tk rfl rfl rfl ?_
   refine go_val2a rfl (ldv Tk rfl rfl rfl) rfl ?_
   refine go_call (relOf A1 k1 a (by omega) (fun x hx => Nat.le_trans (hla x hx) (by omega))) rfl rfl (by rfl) rfl (by repeat constructor) (by repeat constructor) (fun _ v Ps' Os' hq => by obtain ⟨r3, rfl, rfl, rfl⟩ := hq; exact satS (by repeat constructor) (by repeat constructor)) ?_
   rintro _ _ _ ⟨r3, rfl, rfl, rfl⟩
   refine go_freeze_rel (b := r3) (by repeat constructor) ?_
   refine go_ent (relN (some ⟨r3, 0, none⟩) (fof a)) (fun hh hps => relN_some (hps (relP r3 (fof a)) (by repeat constructor))) ?_
   refine go_call (relOf A3 k3 d (by omega) (fun x hx => Nat.le_trans (hld x hx) (by omega))) rfl rfl (by rfl) rfl (by repeat constructor) (by repeat constructor) (fun _ v Ps' Os' hq => by obtain ⟨r4, rfl, rfl, rfl⟩ := hq; exact satS (by repeat constructor) (by repeat constructor)) ?_
   rintro _ _ _ ⟨r4, rfl, rfl, rfl⟩
   refine go_freeze_rel (b := r4) (by repeat constructor) ?_
   refine go_ent (relN (some ⟨r4, 0, none⟩) (fof d)) (fun hh hps => relN_some (hps (relP r4 (fof d)) (by repeat constructor))) ?_
   refine go_call (joinHeadsAll (renC by_ c) HA hc B1 j1 (some ⟨r3, 0, none⟩) (some ⟨r4, 0, none⟩) (fof a) (fof d) (js_small (F := a) (R := []) (N := d) (fun x hx => ⟨ga x hx, Nat.le_trans (hla x hx) (by omega)⟩) (by omega) (by simp) (by omega)) (renC_ok hok) (Nat.le_trans (goL_len _ _ _ _ _ _ _) (by rw [goL_ren]; exact Nat.le_trans (small_pow' hsm (Nat.le_trans (fof_len a) (by simp only [List.length_nil]; omega))) (by omega)))) rfl rfl (by rfl) rfl (by repeat constructor) (by repeat constructor) (fun h => nomatch h) ?_
   rintro _ _ _ ⟨D2, e2, rfl, rfl, rfl⟩
   refine go_freeze_dl (T := tFa) (A := D2) (xs := headsC (renC by_ c) (fof a) [] (fof d) false) (by repeat constructor) ?_
   refine go_pure1 Tk rfl rfl rfl ?_
   refine go_nil ?_
   refine go_env [(11, _), (12, _)] ⟨rfl, rfl, trivial⟩ ?_
   refine go_seq ?_
   refine go_region rfl ?_
   refine go_pure0 Tk rfl rfl rfl ?_
   refine go_pure0 Tk rfl rfl rfl ?_
   refine go_call (ref13Same D1 e1 (headsC c (fof a) [] (fof d) false) D2 e2 (headsC (renC by_ c) (fof a) [] (fof d) false)) rfl rfl (by rfl) rfl (by repeat constructor) (by repeat constructor) (fun h => nomatch h) ?_
   rintro _ _ _ ⟨rfl, rfl, rfl⟩
   refine go_re 66 (.bool true) (by show some (Value.bool _) = _; rw [decide_eq_true (heads_ren hok _ _).symm]) ?_
   refine go_pure0 Tk rfl rfl rfl ?_
   refine go_call (lawWorks13) rfl rfl (by rfl) rfl (by repeat constructor) (by repeat constructor) (fun h => nomatch h) ?_
   rintro _ _ _ ⟨rfl, rfl, rfl⟩
   refine go_pure0 Tk rfl rfl rfl ?_
   refine go_pure0 Tk rfl rfl rfl ?_
   refine go_nil ?_
   refine go_env [(8, _)] ⟨rfl, trivial⟩ ?_
   refine go_ret ⟨rfl, rfl⟩ _ _ (res1 (by rfl) (.tmp rfl)) ⟨rfl, rfl, rfl⟩ (by repeat constructor) (by repeat constructor)

end Go.Proofs.Ytkhddfknpegpmaa.SL
