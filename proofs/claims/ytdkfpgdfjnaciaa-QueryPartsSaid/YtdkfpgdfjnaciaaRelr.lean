/- Contracts of functions of the program (Relr): what each call comes to, for the laws' proofs. -/
import Derived.Test.YtdkfpgdfjnaciaaRefrelb
set_option linter.unusedVariables false
set_option linter.unusedSimpArgs false
namespace Go.Proofs.Ytdkfpgdfjnaciaa.SL
open Go 

theorem lend_relN {b : Nat} {l : List Fa} : ∀ (hp h1 H : Heap), hp.le H → h1.le H → (relO b l).p hp h1 → (relN (some ⟨b, 0, none⟩) l).p H := fun hp h1 H l1 l2 q => relN_some (lend_rel hp h1 H l1 l2 q)
theorem Spec.ownD {P : Program} {f : FuncId} {args : Array Value} {b e : Nat} {l m : List Fa} {Ps : List PA} (s : Spec P f args (relN (some ⟨b, 0, none⟩) l :: Ps) [] (fun v Ps' Os' => ∃ A c, v = .slice A m.length c ∧ Ps' = [] ∧ Os' = [dl tFa e A c m])) :
    Spec P f args Ps [relO b l] (fun v Ps' Os' => ∃ A c, v = .slice A m.length c ∧ Ps' = [] ∧ Os' = [relO b l, dl tFa e A c m]) :=
  (s.lend (relO b l) lend_relN (fun v P' O' ⟨A, c, h⟩ => ⟨h.2.1, by rw [h.2.2]; intro B hB; rw [List.mem_singleton.1 hB]; exact free_dl⟩)).imp fun v P' O' ⟨O2, ⟨A, c, h1, _, h3⟩, h4, h5⟩ => ⟨A, c, h1, h4, by rw [h5, h3]⟩
theorem relListO (b : Nat) (l : List Fa) (hn : l.length ≤ 1000000) (hb : ∀ x ∈ l, x.a.length ≤ 100000) : Spec Try.prog 41 #[.pointer (some ⟨b, 0, none⟩)] [] [relO b l] (fun v Ps' Os' => ∃ A c, v = .slice A (l).length c ∧ Ps' = [] ∧ Os' = [relO b l, dl tFa 31 A c (l)]) := (relListN _ l hn hb).ownD
theorem relFindO (b : Nat) (l : List Fa) (a : Am) (AA : Option Addr) (ac : Nat) (ha : ∀ t ∈ a.a, 0 ≤ t.n) (hm : a.a.length ≤ 1000000) (hn : l.length ≤ 1000000) (hb : ∀ x ∈ l, x.a.length ≤ 100000) : Spec Try.prog 42 #[.pointer (some ⟨b, 0, none⟩), .agg #[.int .u32 a.p, .slice AA a.a.length ac]] [sl tTm AA ac a.a] [relO b l] (fun v Ps' Os' => ∃ A c, v = .slice A (l.filter (mtch a)).length c ∧ Ps' = [] ∧ Os' = [relO b l, dl tFa 31 A c (l.filter (mtch a))]) := (relFindN _ l a AA ac ha hm hn hb).ownD

set_option maxHeartbeats 2000000 in
set_option maxRecDepth 20000 in
theorem lawSame (A : Option Addr) (c : Nat) (l : List Fa) (B : Option Addr) (d : Nat) (m : List Fa) :
    Spec Try.prog 53 #[.slice A l.length c, .slice B m.length d] [sl tFa A c l, sl tFa B d m] [] (fun v Ps' Os' => v = .bool (decide (l = m)) ∧ Ps' = [] ∧ Os' = []) := by
  refine spec_of (fn := Try.f53) (args := [.slice A l.length c, .slice B m.length d]) 27 Try.func53 rfl (by kernel_rfl) Try.ntmps53 (Nat.le_of_ble_eq_true rfl) (fun w0 hp0 hf0 => ?_)
  refine go_seq ?_
  refine go_region rfl ?_
  refine go_pure0 Tk rfl rfl rfl ?_
  refine go_nil ?_
  refine go_env [(0, _), (1, _)] ⟨rfl, rfl, trivial⟩ ?_
  refine go_seq ?_
  refine go_seq ?_
  refine go_len (xs := l) (by repeat constructor) (fun l0 m0 => ?_)
  refine go_len (xs := m) (by repeat constructor) (fun l1 m1 => ?_)
  refine go_region rfl ?_
  refine go_pure0 Tk rfl rfl rfl ?_
  refine go_pure0 Tk rfl rfl rfl ?_
  refine go_pure0 Tk rfl rfl rfl ?_
  refine go_pure0 Tk rfl rfl rfl ?_
  refine go_pure0 Tk rfl rfl rfl ?_
  refine go_nil ?_
  refine go_env [(0, _), (1, _), (10, _)] ⟨rfl, rfl, rfl, trivial⟩ ?_
  refine go_condN rfl ?_ ?_
  · intro g1
    refine go_seq ?_
    refine go_region rfl ?_
    refine go_pure0 Tk rfl rfl rfl ?_
    refine go_nil ?_
    refine go_env [(4, _)] ⟨rfl, trivial⟩ ?_
    refine go_ret ⟨rfl, rfl⟩ _ _ (fun a w hp ho hf hs => res1 (by rfl) (.tmp rfl) a w hp ho hf hs) ⟨by first | rw [decide_eq_false (fun e => g1 (by rw [e]))] | rw [decide_eq_false (same_no (k := k) (by omega) (by omega) (by simpa using g2))] | rw [decide_eq_true (same_yes hl (show l.length ≤ k by omega) hz)], rfl, rfl⟩ (by repeat constructor) (by repeat constructor)
  · intro g1
    refine go_skip ?_
    refine go_seq ?_
    refine go_seq ?_
    have hl : l.length = m.length := by omega
    refine go_region rfl ?_
    refine go_pure0 Tk rfl rfl rfl ?_
    refine go_nil ?_
    refine go_env [(0, _), (1, _), (5, _)] ⟨rfl, rfl, rfl, trivial⟩ ?_
    refine go_block ?_
    refine go_loop' (X := Nat) (fun k => [(5, .int .i64 (k : Int))]) [(0, _), (1, _)] (fun _ => []) (fun k => k ≤ l.length ∧ l.take k = m.take k) (fun k => l.length - k) (0) ⟨rfl, rfl, rfl, trivial⟩ (by repeat constructor) ⟨by omega, by simp⟩ ?_
    intro k ⟨hk, hz⟩
    refine go_seq ?_
    refine go_seq ?_
    refine go_region rfl ?_
    refine go_pure0 Tk rfl rfl rfl ?_
    refine go_pure0 Tk rfl rfl rfl ?_
    refine go_pure0 Tk rfl rfl rfl ?_
    refine go_pure0 Tk rfl rfl rfl ?_
    refine go_nil ?_
    refine go_env [(0, _), (1, _), (5, _), (14, _)] ⟨rfl, rfl, rfl, rfl, trivial⟩ ?_
    refine go_condD rfl ?_ ?_
    · intro hq1
      refine go_skip ?_
      refine go_seq ?_
      refine go_block ?_
      refine go_seq ?_
      refine go_elem_fa (xs := l) (by repeat constructor) (k) (List.getElem?_eq_getElem (by omega)) (fun b0 o0 A0 c0 hA => ?_); cases hA
      refine go_elem_fa (xs := m) (by repeat constructor) (k) (List.getElem?_eq_getElem (by omega)) (fun b2 o2 A2 c2 hA => ?_); cases hA
      refine go_draw'  [3, 7] (SL.pre [(1, 0), (1, 1), (1, 2), (1, 4), (1, 5), (1, 6), (2, 3), (2, 7), (0, 8), (1, 9)] .nil) mixed rfl (by kernel_rfl) ?_
      refine go_pure1 Tk rfl rfl rfl ?_
      refine go_pure1 Tk rfl rfl rfl ?_
      refine go_val1 rfl (idx_val Tk rfl rfl rfl rfl rfl (by omega)) rfl ?_
      refine go_pure1 Tk rfl rfl rfl ?_
      refine go_pure1 Tk rfl rfl rfl ?_
      refine go_val1 rfl (idx_val Tk rfl rfl rfl rfl rfl (by omega)) rfl ?_
      refine go_val2 rfl (load_val Tk rfl rfl rfl (by first | exact at_pt (by repeat constructor) (by rfl) | exact at_cl 0 (by repeat constructor) (by rfl) | exact at_cl 1 (by repeat constructor) (by rfl) | exact at_cl 2 (by repeat constructor) (by rfl) | exact at_cl 3 (by repeat constructor) (by rfl) | exact at_cl 4 (by repeat constructor) (by rfl) | exact at_cl 5 (by repeat constructor) (by rfl) | exact at_cl 6 (by repeat constructor) (by rfl) | exact at_cl 7 (by repeat constructor) (by rfl)) (by rfl)) (by repeat constructor) (by repeat constructor) rfl ?_
      refine go_val2 rfl (load_val Tk rfl rfl rfl (by first | exact at_pt (by repeat constructor) (by rfl) | exact at_cl 0 (by repeat constructor) (by rfl) | exact at_cl 1 (by repeat constructor) (by rfl) | exact at_cl 2 (by repeat constructor) (by rfl) | exact at_cl 3 (by repeat constructor) (by rfl) | exact at_cl 4 (by repeat constructor) (by rfl) | exact at_cl 5 (by repeat constructor) (by rfl) | exact at_cl 6 (by repeat constructor) (by rfl) | exact at_cl 7 (by repeat constructor) (by rfl)) (by rfl)) (by repeat constructor) (by repeat constructor) rfl ?_
      refine go_call (atomsCompare _ _ _ _ _ _ _ _) rfl rfl (by rfl) rfl (by repeat constructor) (by repeat constructor) (fun h => nomatch h) ?_
      rintro _ _ _ ⟨rfl, rfl, rfl⟩
      refine go_pure1 Tk rfl rfl rfl ?_
      refine go_nil ?_
      refine go_env [(0, _), (1, _), (5, _), (26, _)] ⟨rfl, rfl, rfl, rfl, trivial⟩ ?_
      refine go_condN rfl ?_ ?_
      · intro g2
        refine go_seq ?_
        refine go_region rfl ?_
        refine go_pure0 Tk rfl rfl rfl ?_
        refine go_nil ?_
        refine go_env [(4, _)] ⟨rfl, trivial⟩ ?_
        refine go_ret ⟨rfl, rfl⟩ _ _ (fun a w hp ho hf hs => res1 (by rfl) (.tmp rfl) a w hp ho hf hs) ⟨by first | rw [decide_eq_false (fun e => g1 (by rw [e]))] | rw [decide_eq_false (same_no (k := k) (by omega) (by omega) (by simpa using g2))] | rw [decide_eq_true (same_yes hl (show l.length ≤ k by omega) hz)], rfl, rfl⟩ (by repeat constructor) (by repeat constructor)
      · intro g2
        refine go_skip ?_
        refine go_blk ?_
        refine go_region rfl ?_
        refine go_pure0 Tk rfl rfl rfl ?_
        refine go_pure0 Tk rfl rfl rfl ?_
        refine go_pure0 Tk rfl rfl rfl ?_
        refine go_nil ?_
        refine go_i64 5 rfl (by omega) (by omega) ?_
        refine go_back (k + 1) ⟨rfl, rfl, rfl, trivial⟩ (by repeat constructor) (by repeat constructor) (⟨by omega, take_next (by omega) (by omega) hz (cmpF_zero.1 (by simpa using g2))⟩) (by omega)
    · intro hq1
      refine go_exit rfl ?_
      refine go_seq ?_
      refine go_region rfl ?_
      refine go_pure0 Tk rfl rfl rfl ?_
      refine go_nil ?_
      refine go_env [(4, _)] ⟨rfl, trivial⟩ ?_
      refine go_ret ⟨rfl, rfl⟩ _ _ (fun a w hp ho hf hs => res1 (by rfl) (.tmp rfl) a w hp ho hf hs) ⟨by first | rw [decide_eq_false (fun e => g1 (by rw [e]))] | rw [decide_eq_false (same_no (k := k) (by omega) (by omega) (by simpa using g2))] | rw [decide_eq_true (same_yes hl (show l.length ≤ k by omega) hz)], rfl, rfl⟩ (by repeat constructor) (by repeat constructor)

theorem wk_r1 : rises [(⟨1, [2]⟩ : Fa)] := by unfold rises; simp
theorem wk_r2 : rises [(⟨1, [1]⟩ : Fa), (⟨1, [2]⟩ : Fa)] := by unfold rises; decide
theorem wk_f1 : [(⟨1, [1]⟩ : Fa), (⟨1, [2]⟩ : Fa)].filter (mtch (⟨1, [⟨true, 0⟩]⟩ : Am)) = [(⟨1, [1]⟩ : Fa), (⟨1, [2]⟩ : Fa)] := by
  rw [List.filter_eq_self]
  intro x hx
  unfold mtch
  rw [decide_eq_true_iff]
  simp only [List.mem_cons, List.not_mem_nil, or_false] at hx
  rcases hx with rfl | rfl
  · exact ⟨fun _ => 1, rfl⟩
  · exact ⟨fun _ => 2, rfl⟩
theorem wk_f2 : [(⟨1, [1]⟩ : Fa), (⟨1, [2]⟩ : Fa)].filter (mtch (⟨1, [⟨true, 0⟩, ⟨true, 1⟩]⟩ : Am)) = [] := by
  rw [List.filter_eq_nil_iff]
  intro x hx
  simp only [List.mem_cons, List.not_mem_nil, or_false] at hx
  rcases hx with rfl | rfl <;> (intro h; unfold mtch at h; rw [decide_eq_true_iff] at h; have := h.pred.2; simp at this)

set_option maxHeartbeats 2000000 in
set_option maxRecDepth 20000 in
theorem lawWorks10  :
    Spec Try.prog 29 #[] [] [] (fun v Ps' Os' => v = .bool true ∧ Ps' = [] ∧ Os' = []) := by
  refine spec_of (fn := Try.f29) (args := []) 84 Try.func29 rfl (by kernel_rfl) Try.ntmps29 (Nat.le_of_ble_eq_true rfl) (fun w0 hp0 hf0 => ?_)
  refine go_seq ?_
  refine go_region rfl ?_
  refine go_pure0 Tk rfl rfl rfl ?_
  refine go_nil ?_
  refine go_env [] trivial ?_
  refine go_seq ?_
  refine go_region rfl ?_
  refine go_call (relNew) rfl rfl (by rfl) rfl (by repeat constructor) (by repeat constructor) (fun h => nomatch h) ?_
  rintro _ _ _ ⟨b, rfl, rfl, rfl⟩
  refine go_pure0 Tk rfl rfl rfl ?_
  refine go_nil ?_
  refine go_env [(1, _)] ⟨rfl, trivial⟩ ?_
  refine go_seq ?_
  refine go_seq ?_
  refine go_region rfl ?_
  refine go_pure0 Tk rfl rfl rfl ?_
  refine go_bslice Tk rfl rfl rfl rfl rfl rfl rfl rfl (fun h => nomatch h) ?_
  intro b1
  refine go_lit_int (kk := .u32) [2] (by repeat constructor) (by simp) ?_
  refine go_call (lawP _ 1 1) rfl rfl (by rfl) rfl (by repeat constructor) (by repeat constructor) (fun h => nomatch h) ?_
  rintro _ _ _ ⟨rfl, rfl, rfl⟩
  refine go_call (relPut b [] (⟨1, [2]⟩ : Fa) _ _ (by first | exact rises_nil | exact wk_r1 | exact wk_r2) (by simp) (by simp)) rfl rfl (by rfl) rfl (by repeat constructor) (by repeat constructor) (fun h => nomatch h) ?_
  rintro _ _ _ ⟨rfl, rfl, rfl⟩
  rw [show fput [] (⟨1, [2]⟩ : Fa) = [(⟨1, [2]⟩ : Fa)] from by decide]
  refine go_re 8 (.bool true) (by show some (Value.bool _) = _; first | rfl | simp) ?_
  refine go_pure0 Tk rfl rfl rfl ?_
  refine go_pure0 Tk rfl rfl rfl ?_
  refine go_pure0 Tk rfl rfl rfl ?_
  refine go_bslice Tk rfl rfl rfl rfl rfl rfl rfl rfl (fun h => nomatch h) ?_
  intro b2
  refine go_lit_int (kk := .u32) [1] (by repeat constructor) (by simp) ?_
  refine go_call (lawP _ 1 1) rfl rfl (by rfl) rfl (by repeat constructor) (by repeat constructor) (fun h => nomatch h) ?_
  rintro _ _ _ ⟨rfl, rfl, rfl⟩
  refine go_call (relPut b [(⟨1, [2]⟩ : Fa)] (⟨1, [1]⟩ : Fa) _ _ (by first | exact rises_nil | exact wk_r1 | exact wk_r2) (by simp) (by simp)) rfl rfl (by rfl) rfl (by repeat constructor) (by repeat constructor) (fun h => nomatch h) ?_
  rintro _ _ _ ⟨rfl, rfl, rfl⟩
  rw [show fput [(⟨1, [2]⟩ : Fa)] (⟨1, [1]⟩ : Fa) = [(⟨1, [1]⟩ : Fa), (⟨1, [2]⟩ : Fa)] from by decide]
  refine go_re 14 (.bool true) (by show some (Value.bool _) = _; first | rfl | simp) ?_
  refine go_pure0 Tk rfl rfl rfl ?_
  refine go_pure0 Tk rfl rfl rfl ?_
  refine go_pure0 Tk rfl rfl rfl ?_
  refine go_pure0 Tk rfl rfl rfl ?_
  refine go_bslice Tk rfl rfl rfl rfl rfl rfl rfl rfl (fun h => nomatch h) ?_
  intro b3
  refine go_lit_int (kk := .u32) [2] (by repeat constructor) (by simp) ?_
  refine go_call (lawP _ 1 1) rfl rfl (by rfl) rfl (by repeat constructor) (by repeat constructor) (fun h => nomatch h) ?_
  rintro _ _ _ ⟨rfl, rfl, rfl⟩
  refine go_call (relPut b [(⟨1, [1]⟩ : Fa), (⟨1, [2]⟩ : Fa)] (⟨1, [2]⟩ : Fa) _ _ (by first | exact rises_nil | exact wk_r1 | exact wk_r2) (by simp) (by simp)) rfl rfl (by rfl) rfl (by repeat constructor) (by repeat constructor) (fun h => nomatch h) ?_
  rintro _ _ _ ⟨rfl, rfl, rfl⟩
  rw [show fput [(⟨1, [1]⟩ : Fa), (⟨1, [2]⟩ : Fa)] (⟨1, [2]⟩ : Fa) = [(⟨1, [1]⟩ : Fa), (⟨1, [2]⟩ : Fa)] from by decide]
  refine go_re 21 (.bool false) (by show some (Value.bool _) = _; first | rfl | simp) ?_
  refine go_pure0 Tk rfl rfl rfl ?_
  refine go_pure0 Tk rfl rfl rfl ?_
  refine go_pure0 Tk rfl rfl rfl ?_
  refine go_call (relLen b [(⟨1, [1]⟩ : Fa), (⟨1, [2]⟩ : Fa)]) rfl rfl (by rfl) rfl (by repeat constructor) (by repeat constructor) (fun h => nomatch h) ?_
  rintro _ _ _ ⟨rfl, rfl, rfl⟩
  refine go_pure0 Tk rfl rfl rfl ?_
  refine go_re 26 (.bool false) (by show some (Value.bool _) = _; first | rfl | simp) ?_
  refine go_pure0 Tk rfl rfl rfl ?_
  refine go_pure0 Tk rfl rfl rfl ?_
  refine go_pure0 Tk rfl rfl rfl ?_
  refine go_call (relListO b [(⟨1, [1]⟩ : Fa), (⟨1, [2]⟩ : Fa)] (by simp) (by intro x hx; simp only [List.mem_cons, List.not_mem_nil, or_false] at hx; first | (rcases hx with rfl | rfl <;> simp) | (rcases hx with rfl; simp))) rfl rfl (by rfl) rfl (by repeat constructor) (by repeat constructor) (fun h => nomatch h) ?_
  rintro _ _ _ ⟨A1, c1, rfl, rfl, rfl⟩
  refine go_freeze_dl (T := tFa) (A := A1) (by repeat constructor) ?_
  refine go_bslice Tk rfl rfl rfl rfl rfl rfl rfl rfl (fun h => nomatch h) ?_
  intro b4
  refine go_lit_int (kk := .u32) [1] (by repeat constructor) (by simp) ?_
  refine go_call (lawP _ 1 1) rfl rfl (by rfl) rfl (by repeat constructor) (by repeat constructor) (fun h => nomatch h) ?_
  rintro _ _ _ ⟨rfl, rfl, rfl⟩
  refine go_bslice Tk rfl rfl rfl rfl rfl rfl rfl rfl (fun h => nomatch h) ?_
  intro b5
  refine go_lit_int (kk := .u32) [2] (by repeat constructor) (by simp) ?_
  refine go_call (lawP _ 1 1) rfl rfl (by rfl) rfl (by repeat constructor) (by repeat constructor) (fun h => nomatch h) ?_
  rintro _ _ _ ⟨rfl, rfl, rfl⟩
  refine go_bslice Tk rfl rfl rfl rfl rfl rfl rfl rfl (fun h => nomatch h) ?_
  intro bl
  refine go_lit tFa (b := bl) [(⟨1, [1]⟩ : Fa), (⟨1, [2]⟩ : Fa)] (by repeat constructor) (fun hp a => ⟨[_, _], _, rfl, tFa_mk (x := (⟨1, [1]⟩ : Fa)) (a (sl tU _ _ [1]) (by repeat constructor)), [_, _], [], rfl, tFa_mk (x := (⟨1, [2]⟩ : Fa)) (a (sl tU _ _ [2]) (by repeat constructor)), rfl⟩) (by simp) ?_
  refine go_call (refSame A1 c1 [(⟨1, [1]⟩ : Fa), (⟨1, [2]⟩ : Fa)] (some ⟨bl, 0, none⟩) 2 [(⟨1, [1]⟩ : Fa), (⟨1, [2]⟩ : Fa)]) rfl rfl (by rfl) rfl (by repeat constructor) (by repeat constructor) (fun h => nomatch h) ?_
  rintro _ _ _ ⟨rfl, rfl, rfl⟩
  refine go_re 36 (.bool true) (by show some (Value.bool _) = _; first | rfl | simp) ?_
  refine go_pure0 Tk rfl rfl rfl ?_
  refine go_pure0 Tk rfl rfl rfl ?_
  refine go_nil ?_
  refine go_env [(1, _), (38, _)] ⟨rfl, rfl, trivial⟩ ?_
  refine go_cond_f rfl ?_
  refine go_skip ?_
  refine go_seq ?_
  refine go_region rfl ?_
  refine go_pure0 Tk rfl rfl rfl ?_
  refine go_call (lawV 0) rfl rfl (by rfl) rfl (by repeat constructor) (by repeat constructor) (fun h => nomatch h) ?_
  rintro _ _ _ ⟨rfl, rfl, rfl⟩
  refine go_bslice Tk rfl rfl rfl rfl rfl rfl rfl rfl (fun h => nomatch h) ?_
  intro bt
  refine go_lit tTm (b := bt) [⟨true, 0⟩] (by repeat constructor) (fun hp a => ⟨[_, _], [], rfl, tTm_mk (x := ⟨true, 0⟩), rfl⟩) (by simp) ?_
  refine go_val0 rfl (fun a w hp ho hf hs => build_val Tk rfl rfl rfl (by rfl) a w hf) rfl ?_
  refine go_call (relFindO b [(⟨1, [1]⟩ : Fa), (⟨1, [2]⟩ : Fa)] (⟨1, [⟨true, 0⟩]⟩ : Am) (some ⟨bt, 0, none⟩) 1 (by intro t ht; simp only [List.mem_cons, List.not_mem_nil, or_false] at ht; first | (rcases ht with rfl | rfl <;> simp) | (rcases ht with rfl; simp)) (by simp) (by simp) (by intro x hx; simp only [List.mem_cons, List.not_mem_nil, or_false] at hx; first | (rcases hx with rfl | rfl <;> simp) | (rcases hx with rfl; simp))) rfl rfl (by rfl) rfl (by repeat constructor) (by repeat constructor) (fun h => nomatch h) ?_
  rintro _ _ _ ⟨A2, c2, rfl, rfl, rfl⟩
  rw [wk_f1]
  refine go_pure0 Tk rfl rfl rfl ?_
  refine go_nil ?_
  refine go_env [(1, _), (2, _)] ⟨rfl, rfl, trivial⟩ ?_
  refine go_seq ?_
  refine go_region rfl ?_
  refine go_pure0 Tk rfl rfl rfl ?_
  refine go_call (lawV 0) rfl rfl (by rfl) rfl (by repeat constructor) (by repeat constructor) (fun h => nomatch h) ?_
  rintro _ _ _ ⟨rfl, rfl, rfl⟩
  refine go_call (lawV 1) rfl rfl (by rfl) rfl (by repeat constructor) (by repeat constructor) (fun h => nomatch h) ?_
  rintro _ _ _ ⟨rfl, rfl, rfl⟩
  refine go_bslice Tk rfl rfl rfl rfl rfl rfl rfl rfl (fun h => nomatch h) ?_
  intro bu
  refine go_lit tTm (b := bu) [⟨true, 0⟩, ⟨true, 1⟩] (by repeat constructor) (fun hp a => ⟨[_, _], _, rfl, tTm_mk (x := ⟨true, 0⟩), [_, _], [], rfl, tTm_mk (x := ⟨true, 1⟩), rfl⟩) (by simp) ?_
  refine go_val0 rfl (fun a w hp ho hf hs => build_val Tk rfl rfl rfl (by rfl) a w hf) rfl ?_
  refine go_call (relFindO b [(⟨1, [1]⟩ : Fa), (⟨1, [2]⟩ : Fa)] (⟨1, [⟨true, 0⟩, ⟨true, 1⟩]⟩ : Am) (some ⟨bu, 0, none⟩) 2 (by intro t ht; simp only [List.mem_cons, List.not_mem_nil, or_false] at ht; first | (rcases ht with rfl | rfl <;> simp) | (rcases ht with rfl; simp)) (by simp) (by simp) (by intro x hx; simp only [List.mem_cons, List.not_mem_nil, or_false] at hx; first | (rcases hx with rfl | rfl <;> simp) | (rcases hx with rfl; simp))) rfl rfl (by rfl) rfl (by repeat constructor) (by repeat constructor) (fun h => nomatch h) ?_
  rintro _ _ _ ⟨A3, c3, rfl, rfl, rfl⟩
  rw [wk_f2]
  refine go_pure0 Tk rfl rfl rfl ?_
  refine go_nil ?_
  refine go_env [(1, _), (2, _), (3, _)] ⟨rfl, rfl, rfl, trivial⟩ ?_
  refine go_seq ?_
  refine go_region rfl ?_
  refine go_pure0 Tk rfl rfl rfl ?_
  refine go_pure0 Tk rfl rfl rfl ?_
  refine go_pure0 Tk rfl rfl rfl ?_
  refine go_re 52 (.bool true) (by show some (Value.bool _) = _; first | rfl | simp) ?_
  refine go_pure0 Tk rfl rfl rfl ?_
  refine go_pure0 Tk rfl rfl rfl ?_
  refine go_pure0 Tk rfl rfl rfl ?_
  refine go_pure0 Tk rfl rfl rfl ?_
  refine go_re 56 (.bool true) (by show some (Value.bool _) = _; first | rfl | simp) ?_
  refine go_pure0 Tk rfl rfl rfl ?_
  refine go_pure0 Tk rfl rfl rfl ?_
  refine go_pure0 Tk rfl rfl rfl ?_
  refine go_bslice Tk rfl rfl rfl rfl rfl rfl rfl rfl (fun h => nomatch h) ?_
  intro b6
  refine go_lit_int (kk := .u32) [1] (by repeat constructor) (by simp) ?_
  refine go_call (lawP _ 1 1) rfl rfl (by rfl) rfl (by repeat constructor) (by repeat constructor) (fun h => nomatch h) ?_
  rintro _ _ _ ⟨rfl, rfl, rfl⟩
  refine go_call (relCut b [(⟨1, [1]⟩ : Fa), (⟨1, [2]⟩ : Fa)] (⟨1, [1]⟩ : Fa) _ _ wk_r2 (by simp)) rfl rfl (by rfl) rfl (by repeat constructor) (by repeat constructor) (fun h => nomatch h) ?_
  rintro _ _ _ ⟨rfl, rfl, rfl⟩
  rw [show fcut [(⟨1, [1]⟩ : Fa), (⟨1, [2]⟩ : Fa)] (⟨1, [1]⟩ : Fa) = [(⟨1, [2]⟩ : Fa)] from by decide]
  refine go_re 62 (.bool true) (by show some (Value.bool _) = _; first | rfl | simp) ?_
  refine go_pure0 Tk rfl rfl rfl ?_
  refine go_pure0 Tk rfl rfl rfl ?_
  refine go_pure0 Tk rfl rfl rfl ?_
  refine go_bslice Tk rfl rfl rfl rfl rfl rfl rfl rfl (fun h => nomatch h) ?_
  intro b7
  refine go_lit_int (kk := .u32) [1] (by repeat constructor) (by simp) ?_
  refine go_call (lawP _ 1 1) rfl rfl (by rfl) rfl (by repeat constructor) (by repeat constructor) (fun h => nomatch h) ?_
  rintro _ _ _ ⟨rfl, rfl, rfl⟩
  refine go_call (relCut b [(⟨1, [2]⟩ : Fa)] (⟨1, [1]⟩ : Fa) _ _ wk_r1 (by simp)) rfl rfl (by rfl) rfl (by repeat constructor) (by repeat constructor) (fun h => nomatch h) ?_
  rintro _ _ _ ⟨rfl, rfl, rfl⟩
  rw [show fcut [(⟨1, [2]⟩ : Fa)] (⟨1, [1]⟩ : Fa) = [(⟨1, [2]⟩ : Fa)] from by decide]
  refine go_re 68 (.bool false) (by show some (Value.bool _) = _; first | rfl | simp) ?_
  refine go_pure0 Tk rfl rfl rfl ?_
  refine go_pure0 Tk rfl rfl rfl ?_
  refine go_pure0 Tk rfl rfl rfl ?_
  refine go_pure0 Tk rfl rfl rfl ?_
  refine go_bslice Tk rfl rfl rfl rfl rfl rfl rfl rfl (fun h => nomatch h) ?_
  intro b8
  refine go_lit_int (kk := .u32) [2] (by repeat constructor) (by simp) ?_
  refine go_call (lawP _ 1 1) rfl rfl (by rfl) rfl (by repeat constructor) (by repeat constructor) (fun h => nomatch h) ?_
  rintro _ _ _ ⟨rfl, rfl, rfl⟩
  refine go_call (relHas b [(⟨1, [2]⟩ : Fa)] (⟨1, [2]⟩ : Fa) _ _ wk_r1 (by simp)) rfl rfl (by rfl) rfl (by repeat constructor) (by repeat constructor) (fun h => nomatch h) ?_
  rintro _ _ _ ⟨rfl, rfl, rfl⟩
  refine go_re 75 (.bool true) (by show some (Value.bool _) = _; first | rfl | simp) ?_
  refine go_pure0 Tk rfl rfl rfl ?_
  refine go_pure0 Tk rfl rfl rfl ?_
  refine go_pure0 Tk rfl rfl rfl ?_
  refine go_bslice Tk rfl rfl rfl rfl rfl rfl rfl rfl (fun h => nomatch h) ?_
  intro b9
  refine go_lit_int (kk := .u32) [1] (by repeat constructor) (by simp) ?_
  refine go_call (lawP _ 1 1) rfl rfl (by rfl) rfl (by repeat constructor) (by repeat constructor) (fun h => nomatch h) ?_
  rintro _ _ _ ⟨rfl, rfl, rfl⟩
  refine go_call (relHas b [(⟨1, [2]⟩ : Fa)] (⟨1, [1]⟩ : Fa) _ _ wk_r1 (by simp)) rfl rfl (by rfl) rfl (by repeat constructor) (by repeat constructor) (fun h => nomatch h) ?_
  rintro _ _ _ ⟨rfl, rfl, rfl⟩
  refine go_re 81 (.bool false) (by show some (Value.bool _) = _; first | rfl | simp) ?_
  refine go_pure0 Tk rfl rfl rfl ?_
  refine go_pure0 Tk rfl rfl rfl ?_
  refine go_pure0 Tk rfl rfl rfl ?_
  refine go_nil ?_
  refine go_env [(0, _)] ⟨rfl, trivial⟩ ?_
  refine go_ret ⟨rfl, rfl⟩ _ _ (fun a w hp ho hf hs => res1 (by rfl) (.tmp rfl) a w hp ho hf hs) ⟨rfl, rfl, rfl⟩ (by repeat constructor) (by repeat constructor)

end Go.Proofs.Ytdkfpgdfjnaciaa.SL
