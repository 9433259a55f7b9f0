/- Contracts of functions of the program (Query): what each call comes to, for the laws' proofs. -/
import Derived.Test.YtdkfpgdfjnaciaaSortfa
import Derived.Test.YtdkfpgdfjnaciaaRelr
import Derived.Test.YtdkfpgdfjnaciaaDA
set_option linter.unusedVariables false
set_option linter.unusedSimpArgs false
namespace Go.Proofs.Ytdkfpgdfjnaciaa.SL
open Go 

set_option maxHeartbeats 2000000 in
set_option maxRecDepth 20000 in
theorem is1 (bq : Nat) (y : Fa) (B : Option Addr) (d : Nat) (x : Fa) (A : Option Addr) (c : Nat) :
    Spec Try.prog 95 #[.agg #[.int .u32 x.p, .slice A x.a.length c], .pointer (some ⟨bq, 0, none⟩)] [sl tU A c x.a, PA.all [cl bq 0 [.int .u32 y.p, .slice B y.a.length d], sl tU B d y.a]] [] (fun v Ps' Os' => v = .bool (decide (x = y)) ∧ Ps' = [] ∧ Os' = []) := by
  refine spec_of (fn := Try.f95) (args := [.agg #[.int .u32 x.p, .slice A x.a.length c], .pointer (some ⟨bq, 0, none⟩)]) 8 Try.func95 rfl (by kernel_rfl) Try.ntmps95 (Nat.le_of_ble_eq_true rfl) (fun w0 hp0 hf0 => ?_)
  refine go_seq ?_
  refine go_region rfl ?_
  refine go_box Tk rfl rfl rfl rfl (by rfl) rfl rfl (fun h => nomatch h) ?_
  intro b1
  refine go_pure0 Tk rfl rfl rfl ?_
  refine go_nil ?_
  refine go_env [(1, _), (2, _)] ⟨rfl, rfl, trivial⟩ ?_
  refine go_seq ?_
  refine go_pall (l := [_, _]) (by repeat constructor) ?_
  refine go_region rfl ?_
  refine go_val0 rfl (load_val Tk rfl rfl rfl (by first | exact at_pt (by repeat constructor) (by rfl) | exact at_cl 0 (by repeat constructor) (by rfl) | exact at_cl 1 (by repeat constructor) (by rfl) | exact at_cl 2 (by repeat constructor) (by rfl) | exact at_cl 3 (by repeat constructor) (by rfl) | exact at_cl 4 (by repeat constructor) (by rfl) | exact at_cl 5 (by repeat constructor) (by rfl) | exact at_cl 6 (by repeat constructor) (by rfl) | exact at_cl 7 (by repeat constructor) (by rfl)) (by rfl)) rfl ?_
  refine go_val0 rfl (load_val Tk rfl rfl rfl (by first | exact at_pt (by repeat constructor) (by rfl) | exact at_cl 0 (by repeat constructor) (by rfl) | exact at_cl 1 (by repeat constructor) (by rfl) | exact at_cl 2 (by repeat constructor) (by rfl) | exact at_cl 3 (by repeat constructor) (by rfl) | exact at_cl 4 (by repeat constructor) (by rfl) | exact at_cl 5 (by repeat constructor) (by rfl) | exact at_cl 6 (by repeat constructor) (by rfl) | exact at_cl 7 (by repeat constructor) (by rfl)) (by rfl)) rfl ?_
  refine go_call (atomsCompare _ _ _ _ _ _ _ _) rfl rfl (by rfl) rfl (by repeat constructor) (by repeat constructor) (fun h => nomatch h) ?_
  rintro _ _ _ ⟨rfl, rfl, rfl⟩
  refine go_pure0 Tk rfl rfl rfl ?_
  refine go_pure0 Tk rfl rfl rfl ?_
  refine go_nil ?_
  refine go_env [(3, _)] ⟨rfl, trivial⟩ ?_
  refine go_ret ⟨rfl, rfl⟩ _ _ (fun a w hp ho hf hs => res1 (by rfl) (.tmp rfl) a w hp ho hf hs) ⟨congrArg Value.bool (by rw [decide_eq_decide]; exact (cmpF_zero (x := y) (q := x)).trans eq_comm), rfl, rfl⟩ (by repeat constructor) (by repeat constructor)

set_option maxHeartbeats 2000000 in
set_option maxRecDepth 20000 in
theorem indexFa (L : Option Addr) (lc : Nat) (l : List Fa) (g : FuncId) (cap : Array Value) (p : Fa → Bool) (PS : PA) (hso : SoSpec g cap p [PS]) :
    Spec Try.prog 108 #[.slice L l.length lc, .func (.func g) #[] cap] [sl tFa L lc l, PS] [] (fun v Ps' Os' => v = .int .i64 (idxF p l) ∧ Ps' = [] ∧ Os' = []) := by
  refine spec_of (fn := Try.f108) (args := [.slice L l.length lc, .func (.func g) #[] cap]) 19 Try.func108 rfl (by kernel_rfl) Try.ntmps108 (Nat.le_of_ble_eq_true rfl) (fun w0 hp0 hf0 => ?_)
  refine go_seq ?_
  refine go_len (xs := l) (by repeat constructor) (fun l0 m0 => ?_)
  refine go_region rfl ?_
  refine go_pure0 Tk rfl rfl rfl ?_
  refine go_nil ?_
  refine go_env [(0, _), (1, _)] ⟨rfl, rfl, trivial⟩ ?_
  refine go_seq ?_
  refine go_seq ?_
  refine go_region rfl ?_
  refine go_pure0 Tk rfl rfl rfl ?_
  refine go_pure0 Tk rfl rfl rfl ?_
  refine go_pure0 Tk rfl rfl rfl ?_
  refine go_nil ?_
  refine go_env [(0, _), (1, _), (7, _), (8, _)] ⟨rfl, rfl, rfl, rfl, trivial⟩ ?_
  refine go_block ?_
  refine go_loop' (X := Nat) (fun k => [(8, .int .i64 (k : Int))]) [(0, _), (1, _), (7, _)] (fun _ => []) (fun k => k ≤ l.length ∧ ∀ y ∈ l.take k, p y = false) (fun k => l.length - k) (0) ⟨rfl, rfl, rfl, rfl, trivial⟩ (by repeat constructor) ⟨by omega, by simp⟩ ?_
  intro k ⟨hk, hz⟩
  refine go_seq ?_
  refine go_region rfl ?_
  refine go_pure0 Tk rfl rfl rfl ?_
  refine go_nil ?_
  refine go_env [(0, _), (1, _), (7, _), (8, _), (9, _)] ⟨rfl, rfl, rfl, rfl, rfl, trivial⟩ ?_
  refine go_seq ?_
  refine go_condD rfl ?_ ?_
  · intro hq1
    refine go_skip ?_
    refine go_seq ?_
    refine go_block ?_
    refine go_seq ?_
    refine go_region rfl ?_
    refine go_pure0 Tk rfl rfl rfl ?_
    refine go_pure0 Tk rfl rfl rfl ?_
    refine go_nil ?_
    refine go_env [(0, _), (1, _), (5, _), (7, _), (8, _)] ⟨rfl, rfl, rfl, rfl, rfl, trivial⟩ ?_
    refine go_seq ?_
    refine go_elem_fa (xs := l) (by repeat constructor) (k) (List.getElem?_eq_getElem (by omega)) (fun b0 o0 A0 c0 hA => ?_); cases hA
    refine go_region rfl ?_
    refine go_pure0 Tk rfl rfl rfl ?_
    refine go_pure0 Tk rfl rfl rfl ?_
    refine go_pure0 Tk rfl rfl rfl ?_
    refine go_val0 rfl (idx_val Tk rfl rfl rfl rfl rfl (by omega)) rfl ?_
    refine go_val0 rfl (load_val Tk rfl rfl rfl (by first | exact at_pt (by repeat constructor) (by rfl) | exact at_cl 0 (by repeat constructor) (by rfl) | exact at_cl 1 (by repeat constructor) (by rfl) | exact at_cl 2 (by repeat constructor) (by rfl) | exact at_cl 3 (by repeat constructor) (by rfl) | exact at_cl 4 (by repeat constructor) (by rfl) | exact at_cl 5 (by repeat constructor) (by rfl) | exact at_cl 6 (by repeat constructor) (by rfl) | exact at_cl 7 (by repeat constructor) (by rfl)) (by rfl)) rfl ?_
    refine go_call (hso l[k] A0 c0) rfl rfl (by rfl) rfl (by repeat constructor) (by repeat constructor) (fun h => nomatch h) ?_
    rintro _ _ _ ⟨rfl, rfl, rfl⟩
    refine go_nil ?_
    refine go_env [(0, _), (1, _), (5, _), (7, _), (8, _), (16, _)] ⟨rfl, rfl, rfl, rfl, rfl, rfl, trivial⟩ ?_
    refine go_cond rfl ?_ ?_
    · intro g1
      (try simp only [decide_eq_true_eq, decide_eq_false_iff_not, Bool.not_eq_true', Bool.not_eq_false', Bool.not_eq_eq_eq_not, Bool.not_true, Bool.not_false, Int.not_lt, Int.not_le, beq_iff_eq, beq_eq_false_iff_ne, ne_eq] at g1)
      refine go_seq ?_
      refine go_region rfl ?_
      refine go_pure0 Tk rfl rfl rfl ?_
      refine go_pure0 Tk rfl rfl rfl ?_
      refine go_nil ?_
      refine go_env [(4, _)] ⟨rfl, trivial⟩ ?_
      refine go_ret ⟨rfl, rfl⟩ _ _ (fun a w hp ho hf hs => res1 (by rfl) (.tmp rfl) a w hp ho hf hs) ⟨by unfold idxF; rw [idxF_hit (by omega) hz g1], rfl, rfl⟩ (by repeat constructor) (by repeat constructor)
    · intro g1
      (try simp only [decide_eq_true_eq, decide_eq_false_iff_not, Bool.not_eq_true', Bool.not_eq_false', Bool.not_eq_eq_eq_not, Bool.not_true, Bool.not_false, Int.not_lt, Int.not_le, beq_iff_eq, beq_eq_false_iff_ne, ne_eq] at g1)
      refine go_skip ?_
      refine go_blk ?_
      refine go_region rfl ?_
      refine go_pure0 Tk rfl rfl rfl ?_
      refine go_pure0 Tk rfl rfl rfl ?_
      refine go_nil ?_
      refine go_i64 8 rfl (by omega) (by omega) ?_
      refine go_back (k + 1) ⟨rfl, rfl, rfl, rfl, trivial⟩ (by repeat constructor) (by repeat constructor) (⟨by omega, mem_take_next' (by omega) hz g1⟩) (by omega)
  · intro hq1
    refine go_exit rfl ?_
    refine go_seq ?_
    refine go_region rfl ?_
    refine go_pure0 Tk rfl rfl rfl ?_
    refine go_nil ?_
    refine go_env [(4, _)] ⟨rfl, trivial⟩ ?_
    refine go_ret ⟨rfl, rfl⟩ _ _ (fun a w hp ho hf hs => res1 (by rfl) (.tmp rfl) a w hp ho hf hs) ⟨by unfold idxF; rw [idxF_none (by rw [List.take_of_length_le (by omega)] at hz; exact hz)], rfl, rfl⟩ (by repeat constructor) (by repeat constructor)

set_option maxHeartbeats 2000000 in
set_option maxRecDepth 20000 in
theorem containsFa (L : Option Addr) (lc : Nat) (l : List Fa) (g : FuncId) (cap : Array Value) (p : Fa → Bool) (PS : PA) (hso : SoSpec g cap p [PS]) :
    Spec Try.prog 94 #[.slice L l.length lc, .func (.func g) #[] cap] [sl tFa L lc l, PS] [] (fun v Ps' Os' => v = .bool (l.any p) ∧ Ps' = [] ∧ Os' = []) := by
  refine spec_of (fn := Try.f94) (args := [.slice L l.length lc, .func (.func g) #[] cap]) 9 Try.func94 rfl (by kernel_rfl) Try.ntmps94 (Nat.le_of_ble_eq_true rfl) (fun w0 hp0 hf0 => ?_)
  refine go_seq ?_
  refine go_region rfl ?_
  refine go_pure0 Tk rfl rfl rfl ?_
  refine go_nil ?_
  refine go_env [(0, _), (1, _)] ⟨rfl, rfl, trivial⟩ ?_
  refine go_seq ?_
  refine go_region rfl ?_
  refine go_pure0 Tk rfl rfl rfl ?_
  refine go_pure0 Tk rfl rfl rfl ?_
  refine go_call (indexFa L lc l g cap p PS hso) rfl rfl (by rfl) rfl (by repeat constructor) (by repeat constructor) (fun h => nomatch h) ?_
  rintro _ _ _ ⟨rfl, rfl, rfl⟩
  refine go_pure0 Tk rfl rfl rfl ?_
  refine go_pure0 Tk rfl rfl rfl ?_
  refine go_nil ?_
  refine go_env [(4, _)] ⟨rfl, trivial⟩ ?_
  refine go_ret ⟨rfl, rfl⟩ _ _ (fun a w hp ho hf hs => res1 (by rfl) (.tmp rfl) a w hp ho hf hs) ⟨congrArg Value.bool (idxF_any p l).symm, rfl, rfl⟩ (by repeat constructor) (by repeat constructor)

set_option maxHeartbeats 2000000 in
set_option maxRecDepth 20000 in
theorem queryIs (L : Option Addr) (lc : Nat) (l : List Fa) (y : Fa) (B : Option Addr) (d : Nat) :
    Spec Try.prog 59 #[.slice L l.length lc, .agg #[.int .u32 y.p, .slice B y.a.length d]] [sl tFa L lc l, sl tU B d y.a] [] (fun v Ps' Os' => v = .bool (decide (y ∈ l)) ∧ Ps' = [] ∧ Os' = []) := by
  refine spec_of (fn := Try.f59) (args := [.slice L l.length lc, .agg #[.int .u32 y.p, .slice B y.a.length d]]) 8 Try.func59 rfl (by kernel_rfl) Try.ntmps59 (Nat.le_of_ble_eq_true rfl) (fun w0 hp0 hf0 => ?_)
  refine go_seq ?_
  refine go_region rfl ?_
  refine go_box Tk rfl rfl rfl rfl (by rfl) rfl rfl (fun h => nomatch h) ?_
  intro bq
  refine go_freeze_pt (b := bq) (by repeat constructor) ?_
  refine go_mkall [cl bq 0 [.int .u32 y.p, .slice B y.a.length d], sl tU B d y.a] (by repeat constructor) ?_
  refine go_pure0 Tk rfl rfl rfl ?_
  refine go_nil ?_
  refine go_env [(0, _), (3, _)] ⟨rfl, rfl, trivial⟩ ?_
  refine go_seq ?_
  refine go_region rfl ?_
  refine go_pure0 Tk rfl rfl rfl ?_
  refine go_pure0 Tk rfl rfl rfl ?_
  refine go_call (containsFa L lc l 95 #[.pointer (some ⟨bq, 0, none⟩)] (fun x => decide (x = y)) (PA.all [cl bq 0 [.int .u32 y.p, .slice B y.a.length d], sl tU B d y.a]) (fun x A c => is1 bq y B d x A c)) rfl rfl (by rfl) rfl (by repeat constructor) (by repeat constructor) (fun h => nomatch h) ?_
  rintro _ _ _ ⟨rfl, rfl, rfl⟩
  refine go_pure0 Tk rfl rfl rfl ?_
  refine go_nil ?_
  refine go_env [(4, _)] ⟨rfl, trivial⟩ ?_
  refine go_ret ⟨rfl, rfl⟩ _ _ (fun a w hp ho hf hs => res1 (by rfl) (.tmp rfl) a w hp ho hf hs) ⟨congrArg Value.bool (any_mem y l).symm, rfl, rfl⟩ (by repeat constructor) (by repeat constructor)

set_option maxHeartbeats 2000000 in
set_option maxRecDepth 20000 in
theorem ask2 (x : Fa) (A : Option Addr) (c : Nat) (y : Fa) (B : Option Addr) (d : Nat) :
    Spec Try.prog 92 #[.agg #[.int .u32 x.p, .slice A x.a.length c], .agg #[.int .u32 y.p, .slice B y.a.length d]] [sl tU A c x.a, sl tU B d y.a] [] (fun v Ps' Os' => v = .bool (decide (x = y)) ∧ Ps' = [] ∧ Os' = []) := by
  refine spec_of (fn := Try.f92) (args := [.agg #[.int .u32 x.p, .slice A x.a.length c], .agg #[.int .u32 y.p, .slice B y.a.length d]]) 9 Try.func92 rfl (by kernel_rfl) Try.ntmps92 (Nat.le_of_ble_eq_true rfl) (fun w0 hp0 hf0 => ?_)
  refine go_seq ?_
  refine go_region rfl ?_
  refine go_box Tk rfl rfl rfl rfl (by rfl) rfl rfl (fun h => nomatch h) ?_
  intro b1
  refine go_box Tk rfl rfl rfl rfl (by rfl) rfl rfl (fun h => nomatch h) ?_
  intro b2
  refine go_pure0 Tk rfl rfl rfl ?_
  refine go_nil ?_
  refine go_env [(2, _), (3, _)] ⟨rfl, rfl, trivial⟩ ?_
  refine go_seq ?_
  refine go_region rfl ?_
  refine go_val0 rfl (load_val Tk rfl rfl rfl (by first | exact at_pt (by repeat constructor) (by rfl) | exact at_cl 0 (by repeat constructor) (by rfl) | exact at_cl 1 (by repeat constructor) (by rfl) | exact at_cl 2 (by repeat constructor) (by rfl) | exact at_cl 3 (by repeat constructor) (by rfl) | exact at_cl 4 (by repeat constructor) (by rfl) | exact at_cl 5 (by repeat constructor) (by rfl) | exact at_cl 6 (by repeat constructor) (by rfl) | exact at_cl 7 (by repeat constructor) (by rfl)) (by rfl)) rfl ?_
  refine go_val0 rfl (load_val Tk rfl rfl rfl (by first | exact at_pt (by repeat constructor) (by rfl) | exact at_cl 0 (by repeat constructor) (by rfl) | exact at_cl 1 (by repeat constructor) (by rfl) | exact at_cl 2 (by repeat constructor) (by rfl) | exact at_cl 3 (by repeat constructor) (by rfl) | exact at_cl 4 (by repeat constructor) (by rfl) | exact at_cl 5 (by repeat constructor) (by rfl) | exact at_cl 6 (by repeat constructor) (by rfl) | exact at_cl 7 (by repeat constructor) (by rfl)) (by rfl)) rfl ?_
  refine go_call (atomsCompare _ _ _ _ _ _ _ _) rfl rfl (by rfl) rfl (by repeat constructor) (by repeat constructor) (fun h => nomatch h) ?_
  rintro _ _ _ ⟨rfl, rfl, rfl⟩
  refine go_pure0 Tk rfl rfl rfl ?_
  refine go_pure0 Tk rfl rfl rfl ?_
  refine go_nil ?_
  refine go_env [(4, _)] ⟨rfl, trivial⟩ ?_
  refine go_ret ⟨rfl, rfl⟩ _ _ (fun a w hp ho hf hs => res1 (by rfl) (.tmp rfl) a w hp ho hf hs) ⟨congrArg Value.bool (by rw [decide_eq_decide]; exact cmpF_zero), rfl, rfl⟩ (by repeat constructor) (by repeat constructor)

set_option maxHeartbeats 2000000 in
set_option maxRecDepth 20000 in
theorem compactFa (L : Option Addr) (lc : Nat) (l : List Fa) (hn : l.length ≤ 1000000) :
    Spec Try.prog 91 #[.slice L l.length lc, .func (.func 92) #[] #[]] [] [ol tFa 31 L lc l] (fun v Ps' Os' => v = .slice L (dd l).length lc ∧ Ps' = [] ∧ Os' = [ol tFa 31 L lc (dd l)]) := by
  refine spec_of (fn := Try.f91) (args := [.slice L l.length lc, .func (.func 92) #[] #[]]) 66 Try.func91 rfl (by kernel_rfl) Try.ntmps91 (Nat.le_of_ble_eq_true rfl) (fun w0 hp0 hf0 => ?_)
  refine go_seq ?_
  refine go_len_ol (xs := l) (by repeat constructor) (fun l0 m0 => ?_)
  refine go_region rfl ?_
  refine go_pure0 Tk rfl rfl rfl ?_
  refine go_nil ?_
  refine go_env [(0, _), (1, _)] ⟨rfl, rfl, trivial⟩ ?_
  refine go_seq ?_
  refine go_seq ?_
  refine go_region rfl ?_
  refine go_pure0 Tk rfl rfl rfl ?_
  refine go_pure0 Tk rfl rfl rfl ?_
  refine go_pure0 Tk rfl rfl rfl ?_
  refine go_nil ?_
  refine go_env [(0, _), (1, _), (10, _)] ⟨rfl, rfl, rfl, trivial⟩ ?_
  refine go_condD rfl ?_ ?_
  · intro h1
    refine go_seq ?_
    refine go_region rfl ?_
    refine go_pure0 Tk rfl rfl rfl ?_
    refine go_pure0 Tk rfl rfl rfl ?_
    refine go_nil ?_
    refine go_env [(4, _)] ⟨rfl, trivial⟩ ?_
    refine go_ret ⟨rfl, rfl⟩ [] [ol tFa 31 L lc l] (fun a w hp ho hf hs => res1 (by rfl) (.tmp rfl) a w hp ho hf hs) ⟨by rw [dd_short (by omega)], rfl, by rw [dd_short (by omega)]⟩ (by repeat constructor) (by repeat constructor)
  · intro h1
    refine go_ol_addr (xs := l) (by repeat constructor) (by omega) (fun bL hL => ?_); subst hL
    refine go_toY (l := l) (by repeat constructor) (fun xs hx hxl => ?_)
    refine go_skip ?_
    refine go_seq ?_
    refine go_seq ?_
    refine go_region rfl ?_
    refine go_pure0 Tk rfl rfl rfl ?_
    refine go_nil ?_
    refine go_env [(0, _), (1, _), (5, _)] ⟨rfl, rfl, rfl, trivial⟩ ?_
    refine go_block ?_
    refine go_loop' (X := Nat) (fun k => [(5, .int .i64 (k : Int))]) [(0, _), (1, _)] (fun _ => []) (fun k => k ≤ l.length ∧ 1 ≤ k ∧ dd (l.take k) = l.take k) (fun k => l.length - k) (1) ⟨rfl, rfl, rfl, trivial⟩ (by repeat constructor) ⟨by omega, by omega, dd_short (by rw [List.length_take]; omega)⟩ ?_
    intro k ⟨hk, hk1, hz⟩
    refine go_seq ?_
    refine go_seq ?_
    refine go_region rfl ?_
    refine go_pure0 Tk rfl rfl rfl ?_
    refine go_pure0 Tk rfl rfl rfl ?_
    refine go_pure0 Tk rfl rfl rfl ?_
    refine go_pure0 Tk rfl rfl rfl ?_
    refine go_nil ?_
    refine go_env [(0, _), (1, _), (5, _), (15, _)] ⟨rfl, rfl, rfl, rfl, trivial⟩ ?_
    refine go_condD rfl ?_ ?_
    · intro hq1
      refine go_skip ?_
      refine go_seq ?_
      refine go_block ?_
      refine go_seq ?_
      refine go_atY (xs := xs) (by repeat constructor) k (List.getElem?_eq_getElem (by omega)) ?_
      refine go_atY (xs := xs) (by repeat constructor) (k - 1) (List.getElem?_eq_getElem (by omega)) ?_
      refine go_draw'  [4, 9] (SL.pre [(1, 0), (1, 1), (1, 2), (1, 3), (1, 5), (1, 6), (1, 7), (1, 8), (2, 4), (2, 9), (0, 10)] .nil) mixed rfl (by kernel_rfl) ?_
      refine go_pure1 Tk rfl rfl rfl ?_
      refine go_pure1 Tk rfl rfl rfl ?_
      refine go_pure1 Tk rfl rfl rfl ?_
      refine go_val1 rfl (idx_val Tk rfl rfl rfl rfl rfl (by omega)) rfl ?_
      refine go_pure1 Tk rfl rfl rfl ?_
      refine go_pure1 Tk rfl rfl rfl ?_
      refine go_pure1 Tk rfl rfl rfl ?_
      refine go_i64 25 rfl (by omega) (by omega) ?_
      refine go_re 25 (.int .i64 ((k - 1 : Nat) : Int)) (by show some (Value.int _ _) = _; rw [show ((k - 1 : Nat) : Int) = (k : Int) - 1 by omega]) ?_
      refine go_val1 rfl (idx_val Tk rfl rfl rfl rfl rfl (by omega)) rfl ?_
      refine go_val2 rfl (load_val Tk rfl rfl rfl (at_olp fcY fcY_eq (xs := xs) (by repeat constructor) (k) (List.getElem?_eq_getElem (by omega)) rfl rfl) rfl) (by repeat constructor) (by repeat constructor) rfl ?_
      refine go_val2 rfl (load_val Tk rfl rfl rfl (at_olp fcY fcY_eq (xs := xs) (by repeat constructor) (k - 1) (List.getElem?_eq_getElem (by omega)) rfl rfl) rfl) (by repeat constructor) (by repeat constructor) rfl ?_
      refine go_call (ask2 xs[k].f xs[k].A xs[k].c xs[k - 1].f xs[k - 1].A xs[k - 1].c) rfl rfl (by rfl) rfl (by repeat constructor) (by repeat constructor) (fun h => nomatch h) ?_
      rintro _ _ _ ⟨rfl, rfl, rfl⟩
      refine go_nil ?_
      refine go_env [(0, _), (1, _), (5, _), (28, _)] ⟨rfl, rfl, rfl, rfl, trivial⟩ ?_
      refine go_cond rfl ?_ ?_
      · intro g0
        (try simp only [decide_eq_true_eq, decide_eq_false_iff_not, Bool.not_eq_true', Bool.not_eq_false', Bool.not_eq_eq_eq_not, Bool.not_true, Bool.not_false, Int.not_lt, Int.not_le, beq_iff_eq, beq_eq_false_iff_ne, ne_eq] at g0)
        have g1 : l[k] = l[k - 1] := by rw [← getF hx (show k < xs.length by omega), ← getF hx (show k - 1 < xs.length by omega)]; exact g0
        refine go_seq ?_
        refine go_region rfl ?_
        refine go_pure0 Tk rfl rfl rfl ?_
        refine go_pure0 Tk rfl rfl rfl ?_
        refine go_val0 rfl (slice_val' Tk rfl rfl rfl rfl k l.length lc (.slice (some ⟨bL, 0 + k * 2, none⟩) (l.length - k) (lc - k)) (by first | rfl | exact ⟨_, rfl⟩ | exact ⟨rfl, rfl⟩) (by first | rfl | exact ⟨_, rfl⟩ | exact ⟨rfl, rfl⟩) (by first | rfl | exact ⟨_, rfl⟩ | exact ⟨rfl, rfl⟩) (by omega) (by omega) (by omega) (by rw [subN (by omega)]; rfl)) rfl ?_
        refine go_pure0 Tk rfl rfl rfl ?_
        refine go_nil ?_
        refine go_env [(0, _), (1, _), (5, _), (6, _)] ⟨rfl, rfl, rfl, rfl, trivial⟩ ?_
        refine go_seq ?_
        refine go_seq ?_
        refine go_region rfl ?_
        refine go_pure0 Tk rfl rfl rfl ?_
        refine go_nil ?_
        refine go_env [(0, _), (1, _), (5, _), (6, _), (7, _)] ⟨rfl, rfl, rfl, rfl, rfl, trivial⟩ ?_
        refine go_block ?_
        refine go_loop' (X := Nat × Nat × List Fy) (fun x => [(5, .int .i64 (x.1 : Int)), (7, .int .i64 (x.2.1 : Int))]) [(0, _), (1, _), (6, _)] (fun x => [ol tFy 31 (some ⟨bL, 0, none⟩) lc x.2.2]) (fun x => Cmp l xs x.2.2 k x.1 x.2.1) (fun x => l.length - x.2.1) ((k, 1, xs)) ⟨rfl, rfl, rfl, rfl, rfl, trivial⟩ (by repeat constructor) (Cmp.start hx hk1 (by omega) hz g1) ?_
        intro ⟨m, i, ys⟩ hC
        simp only at hC ⊢
        have hC1 := hC.len
        have hC2 := hC.lo
        have hC3 := hC.hi
        have hC4 := hC.i1
        have hC5 := hC.i2
        refine go_seq ?_
        refine go_seq ?_
        refine go_region rfl ?_
        refine go_pure0 Tk rfl rfl rfl ?_
        refine go_pure0 Tk rfl rfl rfl ?_
        refine go_pure0 Tk rfl rfl rfl ?_
        refine go_pure0 Tk rfl rfl rfl ?_
        refine go_nil ?_
        refine go_env [(0, _), (1, _), (5, _), (6, _), (7, _), (35, _)] ⟨rfl, rfl, rfl, rfl, rfl, rfl, trivial⟩ ?_
        refine go_condD rfl ?_ ?_
        · intro hq2
          refine go_skip ?_
          refine go_seq ?_
          refine go_block ?_
          refine go_seq ?_
          refine go_atY (xs := ys) (by repeat constructor) (k + i) (List.getElem?_eq_getElem (by omega)) ?_
          refine go_atY (xs := ys) (by repeat constructor) (k + i - 1) (List.getElem?_eq_getElem (by omega)) ?_
          refine go_draw'  [4, 9] (SL.pre [(1, 0), (1, 1), (1, 2), (1, 3), (1, 5), (1, 6), (1, 7), (1, 8), (2, 4), (2, 9), (0, 10), (1, 11)] .nil) mixed rfl (by kernel_rfl) ?_
          refine go_pure1 Tk rfl rfl rfl ?_
          refine go_pure1 Tk rfl rfl rfl ?_
          refine go_pure1 Tk rfl rfl rfl ?_
          refine go_val1 rfl (idx_val Tk rfl rfl rfl rfl rfl (by omega)) rfl ?_
          refine go_pure1 Tk rfl rfl rfl ?_
          refine go_pure1 Tk rfl rfl rfl ?_
          refine go_pure1 Tk rfl rfl rfl ?_
          refine go_i64 45 rfl (by omega) (by omega) ?_
          refine go_re 45 (.int .i64 ((i - 1 : Nat) : Int)) (by show some (Value.int _ _) = _; rw [show ((i - 1 : Nat) : Int) = (i : Int) - 1 by omega]) ?_
          refine go_val1 rfl (idx_val Tk rfl rfl rfl rfl rfl (by omega)) rfl ?_
          refine go_val2 rfl (load_val Tk rfl rfl rfl (at_olp fcY fcY_eq (xs := ys) (by repeat constructor) (k + i) (List.getElem?_eq_getElem (by omega)) (by show 0 + k * 2 + i * 2 = 0 + (k + i) * 2; omega) rfl) rfl) (by repeat constructor) (by repeat constructor) rfl ?_
          refine go_val2 rfl (load_val Tk rfl rfl rfl (at_olp fcY fcY_eq (xs := ys) (by repeat constructor) (k + i - 1) (List.getElem?_eq_getElem (by omega)) (by show 0 + k * 2 + (i - 1) * 2 = 0 + (k + i - 1) * 2; omega) rfl) rfl) (by repeat constructor) (by repeat constructor) rfl ?_
          refine go_call (ask2 ys[k + i].f ys[k + i].A ys[k + i].c ys[k + i - 1].f ys[k + i - 1].A ys[k + i - 1].c) rfl rfl (by rfl) rfl (by repeat constructor) (by repeat constructor) (fun h => nomatch h) ?_
          rintro _ _ _ ⟨rfl, rfl, rfl⟩
          refine go_pure1 Tk rfl rfl rfl ?_
          refine go_nil ?_
          refine go_env [(0, _), (1, _), (5, _), (6, _), (7, _), (49, _)] ⟨rfl, rfl, rfl, rfl, rfl, rfl, trivial⟩ ?_
          refine go_cond rfl ?_ ?_
          · intro g2
            (try simp only [decide_eq_true_eq, decide_eq_false_iff_not, Bool.not_eq_true', Bool.not_eq_false', Bool.not_eq_eq_eq_not, Bool.not_true, Bool.not_false, Int.not_lt, Int.not_le, beq_iff_eq, beq_eq_false_iff_ne, ne_eq] at g2)
            have g3 : ¬ l[k + i] = l[k + i - 1] := by rw [← hC.get hx (j := k + i) (by omega) (by omega), ← hC.get hx (j := k + i - 1) (by omega) (by omega)]; exact g2
            refine go_seq ?_
            refine go_region rfl ?_
            refine go_pure0 Tk rfl rfl rfl ?_
            refine go_pure0 Tk rfl rfl rfl ?_
            refine go_pure0 Tk rfl rfl rfl ?_
            refine go_pure0 Tk rfl rfl rfl ?_
            refine go_val0 rfl (idx_val Tk rfl rfl rfl rfl rfl (by omega)) rfl ?_
            refine go_val0 rfl (load_val Tk rfl rfl rfl (at_olp fcY fcY_eq (xs := ys) (by repeat constructor) (k + i) (List.getElem?_eq_getElem (by omega)) (by show 0 + k * 2 + i * 2 = 0 + (k + i) * 2; omega) rfl) rfl) rfl ?_
            refine go_val0 rfl (idx_val Tk rfl rfl rfl rfl rfl (by omega)) rfl ?_
            refine go_store_el (T := tFy) (xs := ys) Tk (ys[k + i]) rfl rfl rfl rfl rfl rfl (by repeat constructor) (by omega) rfl rfl (ent_Y (by repeat constructor)) (fun h => nomatch h) ?_
            refine go_nil ?_
            refine go_env [(0, _), (1, _), (5, _), (6, _), (7, _)] ⟨rfl, rfl, rfl, rfl, rfl, trivial⟩ ?_
            refine go_region rfl ?_
            refine go_pure0 Tk rfl rfl rfl ?_
            refine go_pure0 Tk rfl rfl rfl ?_
            refine go_i64 58 rfl (by omega) (by omega) ?_
            refine go_pure0 Tk rfl rfl rfl ?_
            refine go_nil ?_
            refine go_env [(0, _), (1, _), (5, _), (6, _), (7, _)] ⟨rfl, rfl, rfl, rfl, rfl, trivial⟩ ?_
            refine go_blk ?_
            refine go_region rfl ?_
            refine go_pure0 Tk rfl rfl rfl ?_
            refine go_pure0 Tk rfl rfl rfl ?_
            refine go_pure0 Tk rfl rfl rfl ?_
            refine go_nil ?_
            refine go_i64 7 rfl (by omega) (by omega) ?_
            refine go_back (m + 1, i + 1, ys.set m ys[k + i]) ⟨rfl, rfl, rfl, rfl, rfl, trivial⟩ (by repeat constructor) (by repeat constructor) (hC.keep hx (by omega) (by omega) g3) (by show l.length - (i + 1) < l.length - i; omega)
          · intro g2
            (try simp only [decide_eq_true_eq, decide_eq_false_iff_not, Bool.not_eq_true', Bool.not_eq_false', Bool.not_eq_eq_eq_not, Bool.not_true, Bool.not_false, Int.not_lt, Int.not_le, beq_iff_eq, beq_eq_false_iff_ne, ne_eq] at g2)
            have g3 : l[k + i] = l[k + i - 1] := by rw [← hC.get hx (j := k + i) (by omega) (by omega), ← hC.get hx (j := k + i - 1) (by omega) (by omega)]; exact g2
            refine go_skip ?_
            refine go_blk ?_
            refine go_region rfl ?_
            refine go_pure0 Tk rfl rfl rfl ?_
            refine go_pure0 Tk rfl rfl rfl ?_
            refine go_pure0 Tk rfl rfl rfl ?_
            refine go_nil ?_
            refine go_i64 7 rfl (by omega) (by omega) ?_
            refine go_back (m, i + 1, ys) ⟨rfl, rfl, rfl, rfl, rfl, trivial⟩ (by repeat constructor) (by repeat constructor) (hC.skip (by omega) g3) (by show l.length - (i + 1) < l.length - i; omega)
        · intro hq2
          refine go_exit rfl ?_
          refine go_seq ?_
          have hfin := hC.done (by omega)
          have hml : m = (dd l).length := by rw [← hfin]; simp; omega
          refine go_ol_open (xs := ys) (by repeat constructor) (by omega) (fun b0 cs cur hA h1 h2 h3 h4 h5 => ?_); cases hA
          have hms : m * tFy.size ≤ l.length * tFy.size := Nat.mul_le_mul_right _ (by omega)
          have hms2 : m * tFy.size ≤ ys.length * tFy.size := Nat.mul_le_mul_right _ (by omega)
          have hmc : l.length * tFy.size ≤ lc * tFy.size := Nat.mul_le_mul_right _ (by omega)
          refine go_region rfl ?_
          refine go_pure0 Tk rfl rfl rfl ?_
          refine go_pure0 Tk rfl rfl rfl ?_
          refine go_val0 rfl (slice_val' Tk rfl rfl rfl rfl m l.length lc (.slice (some ⟨bL, 0 + m * tFy.size, none⟩) (l.length - m) (lc - m)) (by first | rfl | exact ⟨_, rfl⟩ | exact ⟨rfl, rfl⟩) (by first | rfl | exact ⟨_, rfl⟩ | exact ⟨rfl, rfl⟩) (by first | rfl | exact ⟨_, rfl⟩ | exact ⟨rfl, rfl⟩) (by omega) (by omega) (by omega) (by rw [subN (by omega)]; rfl)) rfl ?_
          refine go_clear Tk rfl rfl rfl rfl rfl rfl rfl rfl (by repeat constructor) (by show 0 + m * tFy.size + (l.length - m) * tFy.size ≤ _; rw [Nat.sub_mul]; omega) (fun h => nomatch h) ?_
          intro zs hzs
          have hzs2 : 0 + m * tFy.size + zs.length ≤ cur.length := by rw [hzs]; show 0 + m * tFy.size + (l.length - m) * tFy.size ≤ _; rw [Nat.sub_mul]; omega
          refine go_rps (cs.take (m * tFy.size)) (xs := ys) (by repeat constructor) (fun _ q => q.head (m := m) (by omega)) ?_
          refine go_ol_close (ys.take m) (by repeat constructor) (by repeat constructor) (by rw [putS_len hzs2]; exact h1) (by rw [List.length_take, Nat.min_eq_left (by omega), putS_low hzs2 (by omega), ← h2, List.take_take, Nat.min_eq_left (by omega)]) (by rw [List.length_take]; omega) h4 ?_
          refine go_ofY (xs := ys.take m) (by repeat constructor) ?_
          rw [hfin]
          refine go_nil ?_
          refine go_env [(0, _), (5, _)] ⟨rfl, rfl, trivial⟩ ?_
          refine go_seq ?_
          refine go_region rfl ?_
          refine go_pure0 Tk rfl rfl rfl ?_
          refine go_pure0 Tk rfl rfl rfl ?_
          refine go_val0 rfl (slice_val' Tk rfl rfl rfl rfl 0 m lc (.slice (some ⟨bL, 0, none⟩) (dd l).length lc) (by first | rfl | exact ⟨_, rfl⟩ | exact ⟨rfl, rfl⟩) (by first | rfl | exact ⟨_, rfl⟩ | exact ⟨rfl, rfl⟩) (by first | rfl | exact ⟨_, rfl⟩ | exact ⟨rfl, rfl⟩) (by omega) (by omega) (by omega) (by rw [sub0, hml]; rfl)) rfl ?_
          refine go_pure0 Tk rfl rfl rfl ?_
          refine go_nil ?_
          refine go_env [(4, _)] ⟨rfl, trivial⟩ ?_
          refine go_ret ⟨rfl, rfl⟩ _ _ (fun a w hp ho hf hs => res1 (by rfl) (.tmp rfl) a w hp ho hf hs) ⟨rfl, rfl, rfl⟩ (by repeat constructor) (by repeat constructor)
      · intro g0
        (try simp only [decide_eq_true_eq, decide_eq_false_iff_not, Bool.not_eq_true', Bool.not_eq_false', Bool.not_eq_eq_eq_not, Bool.not_true, Bool.not_false, Int.not_lt, Int.not_le, beq_iff_eq, beq_eq_false_iff_ne, ne_eq] at g0)
        have g1 : ¬ l[k] = l[k - 1] := by rw [← getF hx (show k < xs.length by omega), ← getF hx (show k - 1 < xs.length by omega)]; exact g0
        refine go_skip ?_
        refine go_blk ?_
        refine go_region rfl ?_
        refine go_pure0 Tk rfl rfl rfl ?_
        refine go_pure0 Tk rfl rfl rfl ?_
        refine go_pure0 Tk rfl rfl rfl ?_
        refine go_nil ?_
        refine go_i64 5 rfl (by omega) (by omega) ?_
        refine go_back (k + 1) ⟨rfl, rfl, rfl, trivial⟩ (by repeat constructor) (by repeat constructor) (⟨by omega, by omega, dd_keep hk1 (by omega) hz g1⟩) (by omega)
    · intro hq1
      refine go_exit rfl ?_
      refine go_seq ?_
      rw [List.take_of_length_le (show l.length ≤ k by omega)] at hz
      refine go_ofY (xs := xs) (by repeat constructor) ?_
      rw [hx]
      refine go_region rfl ?_
      refine go_pure0 Tk rfl rfl rfl ?_
      refine go_pure0 Tk rfl rfl rfl ?_
      refine go_nil ?_
      refine go_env [(4, _)] ⟨rfl, trivial⟩ ?_
      refine go_ret ⟨rfl, rfl⟩ [] [ol tFa 31 (some ⟨bL, 0, none⟩) lc l] (fun a w hp ho hf hs => res1 (by rfl) (.tmp rfl) a w hp ho hf hs) ⟨by rw [hz], rfl, by rw [hz]⟩ (by repeat constructor) (by repeat constructor)

end Go.Proofs.Ytdkfpgdfjnaciaa.SL
