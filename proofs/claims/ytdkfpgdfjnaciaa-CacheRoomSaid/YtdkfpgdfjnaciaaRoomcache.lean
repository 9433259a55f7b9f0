/- Contracts of functions of the program (Roomcache): what each call comes to, for the laws' proofs. -/
import Derived.Test.YtdkfpgdfjnaciaaCachec
import Derived.Test.YtdkfpgdfjnaciaaD4
set_option linter.unusedVariables false
set_option linter.unusedSimpArgs false
namespace Go.Proofs.Ytdkfpgdfjnaciaa.SL
open Go 

set_option maxHeartbeats 2000000 in
set_option maxRecDepth 20000 in
theorem lawCacheRoom (one : Int) (h1 : 0 ≤ one ∧ one < 256) (two : Int) (h2 : 0 ≤ two ∧ two < 256) (l : List Int) (A : Option Addr) (c : Nat) (hl : ∀ x ∈ l, 0 ≤ x ∧ x < 256) :
    Spec Try.prog 3 #[.int .u8 one, .int .u8 two, .slice A l.length c] [sl (tInt .u8) A c l] [] (fun v Ps' Os' => v = .bool true ∧ Ps' = [] ∧ Os' = []) := by
  refine spec_of (fn := Try.f3) (args := [.int .u8 one, .int .u8 two, .slice A l.length c]) 206 Try.func3 rfl (by kernel_rfl) Try.ntmps3 (Nat.le_of_ble_eq_true rfl) (fun w0 hp0 hf0 => ?_)
  refine go_seq ?_
  refine go_len (xs := l) (by repeat constructor) (fun l0 m0 => ?_)
  refine go_region ?_
  refine go_pure0 Tk rfl rfl rfl ?_
  refine go_nil ?_
  refine go_env [(0, _), (1, _), (2, _)] ⟨rfl, rfl, rfl, trivial⟩ ?_
  refine go_seq ?_
  refine go_seq ?_
  refine go_region ?_
  refine go_pure0 Tk rfl rfl rfl ?_
  refine go_pure0 Tk rfl rfl rfl ?_
  refine go_pure0 Tk rfl rfl rfl ?_
  refine go_nil ?_
  refine go_env [(0, _), (1, _), (2, _), (27, _)] ⟨rfl, rfl, rfl, rfl, trivial⟩ ?_
  refine go_condD rfl ?_ ?_
  · intro c1
    refine go_seq ?_
    refine go_region ?_
    refine go_call (cacheWorks) rfl rfl (by rfl) rfl (by repeat constructor) (by repeat constructor) (fun h => nomatch h) ?_
    rintro _ _ _ ⟨rfl, rfl, rfl⟩
    refine go_pure0 Tk rfl rfl rfl ?_
    refine go_nil ?_
    refine go_env [(6, _)] ⟨rfl, trivial⟩ ?_
    refine go_ret _ _ (fun a w hp ho hf hs => res1 (by rfl) (.tmp rfl) a w hp ho hf hs) ⟨rfl, rfl, rfl⟩ (by repeat constructor) (by repeat constructor)
  · intro c1
    refine go_skip ?_
    refine go_seq ?_
    refine go_region ?_
    refine go_pure0 Tk rfl rfl rfl ?_
    refine go_pure0 Tk rfl rfl rfl ?_
    refine go_val0 rfl (min_val rfl rfl rfl) rfl ?_
    obtain ⟨e1, he1⟩ : ∃ e : Int, e = (if two < one then two else one) := ⟨_, rfl⟩
    refine go_re 31 (.int .u8 e1) (by rw [he1]; rfl) ?_
    have re1 : 0 ≤ e1 ∧ e1 < 256 := by rw [he1]; split <;> omega
    refine go_pure0 Tk rfl rfl rfl ?_
    refine go_i64 32 rfl (by omega) (by omega) ?_
    refine go_pure0 Tk rfl rfl rfl ?_
    refine go_re 33 (.int .i64 (e1 % 64)) (by show some (Value.int _ (Int.tmod _ _)) = _; rw [Int.tmod_eq_emod_of_nonneg (by omega)]) ?_
    refine go_pure0 Tk rfl rfl rfl ?_
    refine go_i64 34 rfl (by omega) (by omega) ?_
    obtain ⟨n1, hnn1⟩ : ∃ n : Nat, 1 + e1 % 64 = (n : Int) := ⟨(1 + e1 % 64).toNat, by omega⟩
    refine go_re 34 (.int .i64 (n1 : Int)) (by rw [← hnn1]; rfl) ?_
    have hrn1 : 1 ≤ n1 ∧ n1 ≤ 64 := by omega
    refine go_pure0 Tk rfl rfl rfl ?_
    refine go_nil ?_
    refine go_env [(0, _), (1, _), (2, _), (7, _)] ⟨rfl, rfl, rfl, rfl, trivial⟩ ?_
    refine go_seq ?_
    refine go_region ?_
    refine go_pure0 Tk rfl rfl rfl ?_
    refine go_pure0 Tk rfl rfl rfl ?_
    refine go_val0 rfl (max_val rfl rfl rfl) rfl ?_
    obtain ⟨e2, he2⟩ : ∃ e : Int, e = (if one < two then two else one) := ⟨_, rfl⟩
    refine go_re 37 (.int .u8 e2) (by rw [he2]; rfl) ?_
    have re2 : 0 ≤ e2 ∧ e2 < 256 := by rw [he2]; split <;> omega
    refine go_pure0 Tk rfl rfl rfl ?_
    refine go_i64 38 rfl (by omega) (by omega) ?_
    refine go_pure0 Tk rfl rfl rfl ?_
    refine go_re 39 (.int .i64 (e2 % 64)) (by show some (Value.int _ (Int.tmod _ _)) = _; rw [Int.tmod_eq_emod_of_nonneg (by omega)]) ?_
    refine go_pure0 Tk rfl rfl rfl ?_
    refine go_i64 40 rfl (by omega) (by omega) ?_
    obtain ⟨n2, hnn2⟩ : ∃ n : Nat, 1 + e2 % 64 = (n : Int) := ⟨(1 + e2 % 64).toNat, by omega⟩
    refine go_re 40 (.int .i64 (n2 : Int)) (by rw [← hnn2]; rfl) ?_
    have hrn2 : 1 ≤ n2 ∧ n2 ≤ 64 := by omega
    refine go_pure0 Tk rfl rfl rfl ?_
    refine go_nil ?_
    refine go_env [(2, _), (7, _), (8, _)] ⟨rfl, rfl, rfl, trivial⟩ ?_
    refine go_seq ?_
    refine go_seq ?_
    refine go_region ?_
    refine go_pure0 Tk rfl rfl rfl ?_
    refine go_pure0 Tk rfl rfl rfl ?_
    refine go_pure0 Tk rfl rfl rfl ?_
    refine go_nil ?_
    refine go_env [(2, _), (7, _), (8, _), (43, _)] ⟨rfl, rfl, rfl, rfl, trivial⟩ ?_
    refine go_cutO (X := Nat × Nat) (fun x => [(7, .int .i64 (x.1 : Int)), (8, .int .i64 (x.2 : Int))]) [(2, _)] (fun _ => []) ([]) (fun x => 1 ≤ x.1 ∧ x.1 ≤ x.2 ∧ x.2 ≤ 64) ⟨rfl, trivial⟩ (by repeat constructor) ?_ ?_
    · skip
      refine go_condD rfl ?_ ?_
      · intro cs
        refine go_region ?_
        refine go_pure0 Tk rfl rfl rfl ?_
        refine go_pure0 Tk rfl rfl rfl ?_
        refine go_pure0 Tk rfl rfl rfl ?_
        refine go_pure0 Tk rfl rfl rfl ?_
        refine go_nil ?_
        refine go_back (n2, n1) ⟨rfl, rfl, rfl, trivial⟩ (by repeat constructor) (by repeat constructor) ⟨by show 1 ≤ n2; omega, by show n2 ≤ n1; omega, by show n1 ≤ 64; omega⟩ (by decide)
      · intro cs
        refine go_skip ?_
        refine go_back (n1, n2) ⟨rfl, rfl, rfl, trivial⟩ (by repeat constructor) (by repeat constructor) ⟨by show 1 ≤ n1; omega, by show n1 ≤ n2; omega, by show n2 ≤ 64; omega⟩ (by decide)
    intro ⟨n, m⟩ ⟨hn1, hnm, hm64⟩
    simp only at hn1 hnm hm64 ⊢
    refine go_seq ?_
    refine go_region ?_
    refine go_pure0 Tk rfl rfl rfl ?_
    refine go_call (cacheNewOk (n : Int) (by omega)) rfl rfl (by rfl) rfl (by repeat constructor) (by repeat constructor) (fun h => nomatch h) ?_
    rintro _ _ _ ⟨a, rfl, rfl, rfl⟩
    refine go_pure0 Tk rfl rfl rfl ?_
    refine go_pure0 Tk rfl rfl rfl ?_
    refine go_pure0 Tk rfl rfl rfl ?_
    refine go_pure0 Tk rfl rfl rfl ?_
    refine go_pure0 Tk rfl rfl rfl ?_
    refine go_nil ?_
    refine go_env [(2, _), (7, _), (8, _), (9, _), (10, _)] ⟨rfl, rfl, rfl, rfl, rfl, trivial⟩ ?_
    refine go_seq ?_
    refine go_region ?_
    refine go_pure0 Tk rfl rfl rfl ?_
    refine go_call (cacheNewOk (m : Int) (by omega)) rfl rfl (by rfl) rfl (by repeat constructor) (by repeat constructor) (fun h => nomatch h) ?_
    rintro _ _ _ ⟨b, rfl, rfl, rfl⟩
    refine go_pure0 Tk rfl rfl rfl ?_
    refine go_pure0 Tk rfl rfl rfl ?_
    refine go_pure0 Tk rfl rfl rfl ?_
    refine go_pure0 Tk rfl rfl rfl ?_
    refine go_pure0 Tk rfl rfl rfl ?_
    refine go_nil ?_
    refine go_env [(2, _), (7, _), (8, _), (9, _), (10, _), (11, _), (12, _)] ⟨rfl, rfl, rfl, rfl, rfl, rfl, rfl, trivial⟩ ?_
    refine go_seq ?_
    refine go_seq ?_
    refine go_region ?_
    refine go_pure0 Tk rfl rfl rfl ?_
    refine go_pure0 Tk rfl rfl rfl ?_
    refine go_pure0 Tk rfl rfl rfl ?_
    refine go_pure0 Tk rfl rfl rfl ?_
    refine go_pure0 Tk rfl rfl rfl ?_
    refine go_pure0 Tk rfl rfl rfl ?_
    refine go_pure0 Tk rfl rfl rfl ?_
    refine go_pure0 Tk rfl rfl rfl ?_
    refine go_pure0 Tk rfl rfl rfl ?_
    refine go_pure0 Tk rfl rfl rfl ?_
    refine go_pure0 Tk rfl rfl rfl ?_
    refine go_pure0 Tk rfl rfl rfl ?_
    refine go_pure0 Tk rfl rfl rfl ?_
    refine go_pure0 Tk rfl rfl rfl ?_
    refine go_nil ?_
    refine go_env [(2, _), (7, _), (8, _), (9, _), (11, _), (69, _)] ⟨rfl, rfl, rfl, rfl, rfl, rfl, trivial⟩ ?_
    refine go_cond_f rfl ?_
    refine go_skip ?_
    refine go_seq ?_
    refine go_seq ?_
    rw [show cch a (n : Int) [] = cch a (n : Int) (held n (PRr l 0)) from by rw [PR_zero, held_nil], show cch b (m : Int) [] = cch b (m : Int) (held m (PRr l 0)) from by rw [PR_zero, held_nil]]
    refine go_region ?_
    refine go_pure0 Tk rfl rfl rfl ?_
    refine go_nil ?_
    refine go_env [(2, _), (7, _), (8, _), (9, _), (11, _), (13, _)] ⟨rfl, rfl, rfl, rfl, rfl, rfl, trivial⟩ ?_
    refine go_block ?_
    refine go_loop' (X := Nat) (fun k => [(13, .int .i64 (k : Int))]) [(2, _), (7, _), (8, _), (9, _), (11, _)] (fun k => [cch a (n : Int) (held n (PRr l k)), cch b (m : Int) (held m (PRr l k))]) (fun k => k ≤ l.length) (fun k => l.length - k) (0) ⟨rfl, rfl, rfl, rfl, rfl, rfl, trivial⟩ (by repeat constructor) (by omega) ?_
    intro k hk
    refine go_seq ?_
    refine go_seq ?_
    refine go_region ?_
    refine go_pure0 Tk rfl rfl rfl ?_
    refine go_pure0 Tk rfl rfl rfl ?_
    refine go_pure0 Tk rfl rfl rfl ?_
    refine go_pure0 Tk rfl rfl rfl ?_
    refine go_nil ?_
    refine go_env [(2, _), (7, _), (8, _), (9, _), (11, _), (13, _), (73, _)] ⟨rfl, rfl, rfl, rfl, rfl, rfl, rfl, trivial⟩ ?_
    refine go_condD rfl ?_ ?_
    · intro c1
      refine go_skip ?_
      refine go_seq ?_
      refine go_block ?_
      refine go_seq ?_
      refine go_elem_int (kk := .u8) (xs := l) (by repeat constructor) (k) (List.getElem?_eq_getElem (by omega)) (fun b3 o3 hA => ?_); cases hA
      have hx := hl l[k] (List.getElem_mem _)
      have hA1 := held_len n (PRr l k)
      have hA2 := held_len m (PRr l k)
      refine go_region ?_
      refine go_pure0 Tk rfl rfl rfl ?_
      refine go_pure0 Tk rfl rfl rfl ?_
      refine go_val0 rfl (idx_val Tk rfl rfl rfl rfl rfl (by omega)) rfl ?_
      refine go_val0 rfl (load_val Tk rfl rfl rfl (by first | exact at_pt (by repeat constructor) (by rfl) | exact at_cl 0 (by repeat constructor) (by rfl) | exact at_cl 1 (by repeat constructor) (by rfl) | exact at_cl 2 (by repeat constructor) (by rfl) | exact at_cl 3 (by repeat constructor) (by rfl) | exact at_cl 4 (by repeat constructor) (by rfl) | exact at_cl 5 (by repeat constructor) (by rfl) | exact at_cl 6 (by repeat constructor) (by rfl) | exact at_cl 7 (by repeat constructor) (by rfl)) (by rfl)) rfl ?_
      refine go_pure0 Tk rfl rfl rfl ?_
      refine go_re 80 (.int .u8 (l[k] % 90)) (by show some (Value.int _ (Int.tmod _ _)) = _; rw [Int.tmod_eq_emod_of_nonneg (by omega)]) ?_
      refine go_pure0 Tk rfl rfl rfl ?_
      refine go_re 81 (.int .u32 (l[k] % 90)) (by show some (Value.int _ _) = _; rw [wrap_u32 (by omega)]) ?_
      refine go_bslice Tk rfl rfl rfl rfl rfl rfl rfl rfl (fun h => nomatch h) ?_
      intro bl
      refine go_lit_int (kk := .u32) (b := bl) [1] (by repeat constructor) (by simp) ?_
      refine go_val0 rfl (fun a w hp ho hf hs => build_val Tk rfl rfl rfl (by rfl) a w hf) rfl ?_
      refine go_alloc Tk rfl rfl rfl (by rfl) rfl rfl (fun h => nomatch h) ?_
      intro b1
      refine go_store Tk rfl rfl rfl rfl rfl rfl (by repeat constructor) rfl rfl (by rfl) (fun h => nomatch h) ?_
      refine go_nil ?_
      refine go_env [(2, _), (7, _), (8, _), (9, _), (11, _), (13, _), (14, _)] ⟨rfl, rfl, rfl, rfl, rfl, rfl, rfl, trivial⟩ ?_
      refine go_seq ?_
      refine go_region ?_
      refine go_pure0 Tk rfl rfl rfl ?_
      refine go_pure0 Tk rfl rfl rfl ?_
      refine go_val0 rfl (idx_val Tk rfl rfl rfl rfl rfl (by omega)) rfl ?_
      refine go_val0 rfl (load_val Tk rfl rfl rfl (by first | exact at_pt (by repeat constructor) (by rfl) | exact at_cl 0 (by repeat constructor) (by rfl) | exact at_cl 1 (by repeat constructor) (by rfl) | exact at_cl 2 (by repeat constructor) (by rfl) | exact at_cl 3 (by repeat constructor) (by rfl) | exact at_cl 4 (by repeat constructor) (by rfl) | exact at_cl 5 (by repeat constructor) (by rfl) | exact at_cl 6 (by repeat constructor) (by rfl) | exact at_cl 7 (by repeat constructor) (by rfl)) (by rfl)) rfl ?_
      refine go_pure0 Tk rfl rfl rfl ?_
      refine go_re 88 (.int .u8 (l[k] % 3)) (by show some (Value.int _ (Int.tmod _ _)) = _; rw [Int.tmod_eq_emod_of_nonneg (by omega)]) ?_
      refine go_pure0 Tk rfl rfl rfl ?_
      refine go_nil ?_
      refine go_env [(2, _), (7, _), (8, _), (9, _), (11, _), (13, _), (14, _), (15, _)] ⟨rfl, rfl, rfl, rfl, rfl, rfl, rfl, rfl, trivial⟩ ?_
      refine go_seq ?_
      refine go_region ?_
      refine go_pure0 Tk rfl rfl rfl ?_
      refine go_val0 rfl (load_val Tk rfl rfl rfl (by first | exact at_pt (by repeat constructor) (by rfl) | exact at_cl 0 (by repeat constructor) (by rfl) | exact at_cl 1 (by repeat constructor) (by rfl) | exact at_cl 2 (by repeat constructor) (by rfl) | exact at_cl 3 (by repeat constructor) (by rfl) | exact at_cl 4 (by repeat constructor) (by rfl) | exact at_cl 5 (by repeat constructor) (by rfl) | exact at_cl 6 (by repeat constructor) (by rfl) | exact at_cl 7 (by repeat constructor) (by rfl)) (by rfl)) rfl ?_
      refine go_pure0 Tk rfl rfl rfl ?_
      refine go_call (cachePut a (n : Int) (held n (PRr l k)) (kq l[k]) _ _ (held_ok (PR_ok l k)) (kq_ok _) (by simp [kq]) (l[k] % 3) (by omega)) rfl rfl (by rfl) rfl (by repeat constructor) (by repeat constructor) (fun h => nomatch h) ?_
      rintro _ _ _ ⟨rfl, rfl, rfl⟩
      refine go_pure0 Tk rfl rfl rfl ?_
      refine go_pure0 Tk rfl rfl rfl ?_
      refine go_pure0 Tk rfl rfl rfl ?_
      refine go_val0 rfl (load_val Tk rfl rfl rfl (by first | exact at_pt (by repeat constructor) (by rfl) | exact at_cl 0 (by repeat constructor) (by rfl) | exact at_cl 1 (by repeat constructor) (by rfl) | exact at_cl 2 (by repeat constructor) (by rfl) | exact at_cl 3 (by repeat constructor) (by rfl) | exact at_cl 4 (by repeat constructor) (by rfl) | exact at_cl 5 (by repeat constructor) (by rfl) | exact at_cl 6 (by repeat constructor) (by rfl) | exact at_cl 7 (by repeat constructor) (by rfl)) (by rfl)) rfl ?_
      refine go_pure0 Tk rfl rfl rfl ?_
      refine go_call (cachePut b (m : Int) (held m (PRr l k)) (kq l[k]) _ _ (held_ok (PR_ok l k)) (kq_ok _) (by simp [kq]) (l[k] % 3) (by omega)) rfl rfl (by rfl) rfl (by repeat constructor) (by repeat constructor) (fun h => nomatch h) ?_
      rintro _ _ _ ⟨rfl, rfl, rfl⟩
      refine go_pure0 Tk rfl rfl rfl ?_
      refine go_pure0 Tk rfl rfl rfl ?_
      refine go_nil ?_
      refine go_env [(2, _), (7, _), (8, _), (9, _), (11, _), (13, _), (95, _), (96, _), (97, _), (98, _), (99, _), (100, _)] ⟨rfl, rfl, rfl, rfl, rfl, rfl, rfl, rfl, rfl, rfl, rfl, rfl, trivial⟩ ?_
      refine go_cond_f rfl ?_
      refine go_skip ?_
      refine go_blk ?_
      refine go_region ?_
      refine go_pure0 Tk rfl rfl rfl ?_
      refine go_pure0 Tk rfl rfl rfl ?_
      refine go_pure0 Tk rfl rfl rfl ?_
      refine go_nil ?_
      rw [cput_held (by omega), cput_held (by omega), ← PR_next (by omega)]
      refine go_i64 13 rfl (by omega) (by omega) ?_
      refine go_back (k + 1) ⟨rfl, rfl, rfl, rfl, rfl, rfl, trivial⟩ (by repeat constructor) (by repeat constructor) (by omega) (by omega)
    · intro c1
      refine go_exit rfl ?_
      refine go_seq ?_
      refine go_region ?_
      refine go_pure0 Tk rfl rfl rfl ?_
      obtain rfl : k = l.length := by omega
      rw [PR_all]
      refine go_re 16 (.int .i64 ((recent (DRr l l.length)).length : Int)) (by rw [DR_end]; rfl) ?_
      refine go_nil ?_
      refine go_env [(2, _), (7, _), (8, _), (9, _), (11, _), (16, _)] ⟨rfl, rfl, rfl, rfl, rfl, rfl, trivial⟩ ?_
      refine go_seq ?_
      refine go_seq ?_
      refine go_region ?_
      refine go_pure0 Tk rfl rfl rfl ?_
      refine go_pure0 Tk rfl rfl rfl ?_
      refine go_pure0 Tk rfl rfl rfl ?_
      refine go_i64 103 rfl (by omega) (by omega) ?_
      refine go_pure0 Tk rfl rfl rfl ?_
      refine go_nil ?_
      refine go_env [(2, _), (7, _), (8, _), (9, _), (11, _), (16, _), (17, _)] ⟨rfl, rfl, rfl, rfl, rfl, rfl, rfl, trivial⟩ ?_
      refine go_block ?_
      refine go_loop' (X := Nat) (fun k => [(16, .int .i64 ((recent (DRr l k)).length : Int)), (17, .int .i64 ((k : Int) - 1))]) [(2, _), (7, _), (8, _), (9, _), (11, _)] (fun _ => []) (fun k => k ≤ l.length) (fun k => k) (l.length) ⟨rfl, rfl, rfl, rfl, rfl, rfl, rfl, trivial⟩ (by repeat constructor) (Nat.le_refl _) ?_
      intro k hk
      refine go_seq ?_
      refine go_seq ?_
      refine go_region ?_
      refine go_pure0 Tk rfl rfl rfl ?_
      refine go_pure0 Tk rfl rfl rfl ?_
      refine go_nil ?_
      refine go_env [(2, _), (7, _), (8, _), (9, _), (11, _), (16, _), (17, _), (105, _)] ⟨rfl, rfl, rfl, rfl, rfl, rfl, rfl, rfl, trivial⟩ ?_
      refine go_condD rfl ?_ ?_
      · intro c5
        obtain ⟨j, rfl⟩ : ∃ j, k = j + 1 := ⟨k - 1, by omega⟩
        refine go_re 17 (.int .i64 (j : Int)) (by show some (Value.int _ (((j + 1 : Nat) : Int) - 1)) = _; congr 2; omega) ?_
        have hjl : j < l.length := by omega
        have hfl := far_len l (j + 1)
        refine go_elem_int (kk := .u8) (xs := l) (by repeat constructor) (j) (List.getElem?_eq_getElem (by omega)) (fun b7 o7 hA => ?_); cases hA
        have hxj := hl l[j] (List.getElem_mem _)
        refine go_skip ?_
        refine go_seq ?_
        refine go_block ?_
        refine go_seq ?_
        refine go_region ?_
        refine go_pure0 Tk rfl rfl rfl ?_
        refine go_nil ?_
        refine go_env [(2, _), (7, _), (8, _), (9, _), (11, _), (16, _), (17, _), (18, _)] ⟨rfl, rfl, rfl, rfl, rfl, rfl, rfl, rfl, trivial⟩ ?_
        refine go_seq ?_
        refine go_seq ?_
        refine go_region ?_
        refine go_pure0 Tk rfl rfl rfl ?_
        refine go_pure0 Tk rfl rfl rfl ?_
        refine go_i64 109 rfl (by omega) (by omega) ?_
        refine go_pure0 Tk rfl rfl rfl ?_
        refine go_nil ?_
        refine go_env [(2, _), (7, _), (8, _), (9, _), (11, _), (16, _), (17, _), (18, _), (19, _)] ⟨rfl, rfl, rfl, rfl, rfl, rfl, rfl, rfl, rfl, trivial⟩ ?_
        refine go_block ?_
        refine go_loop' (X := Nat × Bool) (fun y => [(18, .bool y.2), (19, .int .i64 ((j + 1 + y.1 : Nat) : Int))]) [(2, _), (7, _), (8, _), (9, _), (11, _), (16, _), (17, _)] (fun _ => []) (fun y => y.1 ≤ l.length - (j + 1) ∧ y.2 = decide (l[j] % 90 ∈ (ks l j).take y.1)) (fun y => l.length - (j + 1) - y.1) ((0, false)) ⟨rfl, rfl, rfl, rfl, rfl, rfl, rfl, rfl, rfl, trivial⟩ (by repeat constructor) ⟨by omega, by simp⟩ ?_
        intro ⟨t, is⟩ ⟨ht1, his⟩
        simp only at ht1 his ⊢
        refine go_seq ?_
        refine go_seq ?_
        refine go_region ?_
        refine go_pure0 Tk rfl rfl rfl ?_
        refine go_pure0 Tk rfl rfl rfl ?_
        refine go_pure0 Tk rfl rfl rfl ?_
        refine go_pure0 Tk rfl rfl rfl ?_
        refine go_nil ?_
        refine go_env [(2, _), (7, _), (8, _), (9, _), (11, _), (16, _), (17, _), (18, _), (19, _), (113, _)] ⟨rfl, rfl, rfl, rfl, rfl, rfl, rfl, rfl, rfl, rfl, trivial⟩ ?_
        refine go_condD rfl ?_ ?_
        · intro ct
          have htl : j + 1 + t < l.length := by omega
          have htk : t < (ks l j).length := by rw [ks_len]; omega
          refine go_elem_int (kk := .u8) (xs := l) (by repeat constructor) (j + 1 + t) (List.getElem?_eq_getElem (by omega)) (fun b8 o8 hA => ?_); cases hA
          have hxt := hl l[j + 1 + t] (List.getElem_mem _)
          refine go_skip ?_
          refine go_seq ?_
          refine go_block ?_
          refine go_cut' (X := Bool) (fun y => [(18, .bool y)]) [(2, _), (7, _), (8, _), (9, _), (11, _), (16, _), (17, _), (19, _)] (fun y => y = decide (l[j] % 90 ∈ (ks l j).take (t + 1))) ⟨rfl, rfl, rfl, rfl, rfl, rfl, rfl, rfl, trivial⟩ ?_ ?_
          · skip
            refine go_draw'  [5, 10] (pre [(1, 0), (1, 1), (1, 2), (1, 3), (1, 4), (1, 7), (1, 8), (1, 9), (2, 5), (1, 6), (2, 10), (1, 11), (1, 12), (1, 13), (1, 14)] .nil) mixed (by kernel_rfl) ?_
            refine go_pure1 Tk rfl rfl rfl ?_
            refine go_pure1 Tk rfl rfl rfl ?_
            refine go_known 117 rfl ?_ ?_
            · intro g5
              (try simp only [decide_eq_true_eq, decide_eq_false_iff_not, Bool.not_eq_true', Bool.not_eq_false', Bool.not_eq_eq_eq_not, Bool.not_true, Bool.not_false, Int.not_lt, Int.not_le, beq_iff_eq, beq_eq_false_iff_ne, ne_eq] at g5)
              refine go_skip1 rfl rfl ?_
              refine go_skip1 rfl rfl ?_
              refine go_skip1 rfl rfl ?_
              refine go_skip1 rfl rfl ?_
              refine go_skip1 rfl rfl ?_
              refine go_skip1 rfl rfl ?_
              refine go_skip2 rfl (by repeat constructor) (by repeat constructor) rfl ?_
              refine go_skip1 rfl rfl ?_
              refine go_skip2 rfl (by repeat constructor) (by repeat constructor) rfl ?_
              refine go_skip1 rfl rfl ?_
              refine go_skip1 rfl rfl ?_
              refine go_pure1 Tk rfl rfl rfl ?_
              refine go_pure1 Tk rfl rfl rfl ?_
              refine go_nil ?_
              refine go_back _ ⟨rfl, rfl, rfl, rfl, rfl, rfl, rfl, rfl, rfl, trivial⟩ (by repeat constructor) (by repeat constructor) (mem_stepI htk (by first | exact .inl ⟨his, g5, rfl⟩ | exact .inr ⟨his, g5, by rw [ks_get htk htl]⟩)) (by decide)
            · intro g5
              (try simp only [decide_eq_true_eq, decide_eq_false_iff_not, Bool.not_eq_true', Bool.not_eq_false', Bool.not_eq_eq_eq_not, Bool.not_true, Bool.not_false, Int.not_lt, Int.not_le, beq_iff_eq, beq_eq_false_iff_ne, ne_eq] at g5)
              refine go_pure1 Tk rfl rfl rfl ?_
              refine go_pure1 Tk rfl rfl rfl ?_
              refine go_val1 rfl (idx_val Tk rfl rfl rfl rfl rfl (by omega)) rfl ?_
              refine go_pure1 Tk rfl rfl rfl ?_
              refine go_pure1 Tk rfl rfl rfl ?_
              refine go_val1 rfl (idx_val Tk rfl rfl rfl rfl rfl (by omega)) rfl ?_
              refine go_val2 rfl (load_val Tk rfl rfl rfl (by first | exact at_pt (by repeat constructor) (by rfl) | exact at_cl 0 (by repeat constructor) (by rfl) | exact at_cl 1 (by repeat constructor) (by rfl) | exact at_cl 2 (by repeat constructor) (by rfl) | exact at_cl 3 (by repeat constructor) (by rfl) | exact at_cl 4 (by repeat constructor) (by rfl) | exact at_cl 5 (by repeat constructor) (by rfl) | exact at_cl 6 (by repeat constructor) (by rfl) | exact at_cl 7 (by repeat constructor) (by rfl)) (by rfl)) (by repeat constructor) (by repeat constructor) rfl ?_
              refine go_pure1 Tk rfl rfl rfl ?_
              refine go_re 122 (.int .u8 (l[j + 1 + t] % 90)) (by show some (Value.int _ (Int.tmod _ _)) = _; rw [Int.tmod_eq_emod_of_nonneg (by omega)]) ?_
              refine go_val2 rfl (load_val Tk rfl rfl rfl (by first | exact at_pt (by repeat constructor) (by rfl) | exact at_cl 0 (by repeat constructor) (by rfl) | exact at_cl 1 (by repeat constructor) (by rfl) | exact at_cl 2 (by repeat constructor) (by rfl) | exact at_cl 3 (by repeat constructor) (by rfl) | exact at_cl 4 (by repeat constructor) (by rfl) | exact at_cl 5 (by repeat constructor) (by rfl) | exact at_cl 6 (by repeat constructor) (by rfl) | exact at_cl 7 (by repeat constructor) (by rfl)) (by rfl)) (by repeat constructor) (by repeat constructor) rfl ?_
              refine go_pure1 Tk rfl rfl rfl ?_
              refine go_re 127 (.int .u8 (l[j] % 90)) (by show some (Value.int _ (Int.tmod _ _)) = _; rw [Int.tmod_eq_emod_of_nonneg (by omega)]) ?_
              refine go_pure1 Tk rfl rfl rfl ?_
              refine go_pure1 Tk rfl rfl rfl ?_
              refine go_pure1 Tk rfl rfl rfl ?_
              refine go_nil ?_
              refine go_back _ ⟨rfl, rfl, rfl, rfl, rfl, rfl, rfl, rfl, rfl, trivial⟩ (by repeat constructor) (by repeat constructor) (mem_stepI htk (by first | exact .inl ⟨his, g5, rfl⟩ | exact .inr ⟨his, g5, by rw [ks_get htk htl]⟩)) (by decide)
          intro is2 hx2
          refine go_blk ?_
          refine go_region ?_
          refine go_pure0 Tk rfl rfl rfl ?_
          refine go_pure0 Tk rfl rfl rfl ?_
          refine go_pure0 Tk rfl rfl rfl ?_
          refine go_nil ?_
          refine go_i64 19 rfl (by omega) (by omega) ?_
          refine go_back (t + 1, _) ⟨rfl, rfl, rfl, rfl, rfl, rfl, rfl, rfl, rfl, trivial⟩ (by repeat constructor) (by repeat constructor) ⟨by show t + 1 ≤ _; omega, hx2⟩ (by show l.length - (j + 1) - (t + 1) < l.length - (j + 1) - t; omega)
        · intro ct
          refine go_exit rfl ?_
          refine go_seq ?_
          refine go_seq ?_
          refine go_region ?_
          refine go_pure0 Tk rfl rfl rfl ?_
          refine go_nil ?_
          refine go_env [(2, _), (7, _), (8, _), (9, _), (11, _), (16, _), (17, _), (130, _)] ⟨rfl, rfl, rfl, rfl, rfl, rfl, rfl, rfl, trivial⟩ ?_
          refine go_cond rfl ?_ ?_
          · intro ci
            (try simp only [decide_eq_true_eq, decide_eq_false_iff_not, Bool.not_eq_true', Bool.not_eq_false', Bool.not_eq_eq_eq_not, Bool.not_true, Bool.not_false, Int.not_lt, Int.not_le, beq_iff_eq, beq_eq_false_iff_ne, ne_eq] at ci)
            have hin : l[j] % 90 ∈ ks l j := by rw [his, decide_eq_true_eq] at ci; exact List.mem_of_mem_take ci
            refine go_exit rfl ?_
            refine go_region ?_
            refine go_pure0 Tk rfl rfl rfl ?_
            refine go_pure0 Tk rfl rfl rfl ?_
            refine go_pure0 Tk rfl rfl rfl ?_
            refine go_nil ?_
            refine go_i64 17 rfl (by omega) (by omega) ?_
            rw [← far_same hjl hin]
            refine go_back j ⟨rfl, rfl, rfl, rfl, rfl, rfl, rfl, trivial⟩ (by repeat constructor) (by repeat constructor) (by omega) (by omega)
          · intro ci
            (try simp only [decide_eq_true_eq, decide_eq_false_iff_not, Bool.not_eq_true', Bool.not_eq_false', Bool.not_eq_eq_eq_not, Bool.not_true, Bool.not_false, Int.not_lt, Int.not_le, beq_iff_eq, beq_eq_false_iff_ne, ne_eq] at ci)
            have hin : ¬ l[j] % 90 ∈ ks l j := by rw [his, decide_eq_false_iff_not, List.take_of_length_le (by rw [ks_len]; omega)] at ci; exact ci
            refine go_skip ?_
            refine go_seq ?_
            refine go_region ?_
            refine go_pure0 Tk rfl rfl rfl ?_
            refine go_pure0 Tk rfl rfl rfl ?_
            refine go_val0 rfl (idx_val Tk rfl rfl rfl rfl rfl (by omega)) rfl ?_
            refine go_val0 rfl (load_val Tk rfl rfl rfl (by first | exact at_pt (by repeat constructor) (by rfl) | exact at_cl 0 (by repeat constructor) (by rfl) | exact at_cl 1 (by repeat constructor) (by rfl) | exact at_cl 2 (by repeat constructor) (by rfl) | exact at_cl 3 (by repeat constructor) (by rfl) | exact at_cl 4 (by repeat constructor) (by rfl) | exact at_cl 5 (by repeat constructor) (by rfl) | exact at_cl 6 (by repeat constructor) (by rfl) | exact at_cl 7 (by repeat constructor) (by rfl)) (by rfl)) rfl ?_
            refine go_pure0 Tk rfl rfl rfl ?_
            refine go_re 135 (.int .u8 (l[j] % 90)) (by show some (Value.int _ (Int.tmod _ _)) = _; rw [Int.tmod_eq_emod_of_nonneg (by omega)]) ?_
            refine go_pure0 Tk rfl rfl rfl ?_
            refine go_re 136 (.int .u32 (l[j] % 90)) (by show some (Value.int _ _) = _; rw [wrap_u32 (by omega)]) ?_
            refine go_bslice Tk rfl rfl rfl rfl rfl rfl rfl rfl (fun h => nomatch h) ?_
            intro bm
            refine go_lit_int (kk := .u32) (b := bm) [1] (by repeat constructor) (by simp) ?_
            refine go_val0 rfl (fun a w hp ho hf hs => build_val Tk rfl rfl rfl (by rfl) a w hf) rfl ?_
            refine go_alloc Tk rfl rfl rfl (by rfl) rfl rfl (fun h => nomatch h) ?_
            intro b2
            refine go_store Tk rfl rfl rfl rfl rfl rfl (by repeat constructor) rfl rfl (by rfl) (fun h => nomatch h) ?_
            refine go_nil ?_
            refine go_env [(2, _), (7, _), (8, _), (9, _), (11, _), (16, _), (17, _), (20, _)] ⟨rfl, rfl, rfl, rfl, rfl, rfl, rfl, rfl, trivial⟩ ?_
            refine go_seq ?_
            refine go_region ?_
            refine go_pure0 Tk rfl rfl rfl ?_
            refine go_val0 rfl (load_val Tk rfl rfl rfl (by first | exact at_pt (by repeat constructor) (by rfl) | exact at_cl 0 (by repeat constructor) (by rfl) | exact at_cl 1 (by repeat constructor) (by rfl) | exact at_cl 2 (by repeat constructor) (by rfl) | exact at_cl 3 (by repeat constructor) (by rfl) | exact at_cl 4 (by repeat constructor) (by rfl) | exact at_cl 5 (by repeat constructor) (by rfl) | exact at_cl 6 (by repeat constructor) (by rfl) | exact at_cl 7 (by repeat constructor) (by rfl)) (by rfl)) rfl ?_
            refine go_call (cacheGet a (n : Int) (held n (DRr l 0)) (kq l[j]) _ _ (held_ok (DR_ok l 0)) (kq_ok _) (by simp [kq])) rfl rfl (by rfl) rfl (by repeat constructor) (by repeat constructor) (fun h => nomatch h) ?_
            rintro _ _ _ ⟨rfl, rfl, rfl⟩
            rw [room_get hjl hin]
            refine go_pure0 Tk rfl rfl rfl ?_
            refine go_pure0 Tk rfl rfl rfl ?_
            refine go_pure0 Tk rfl rfl rfl ?_
            refine go_pure0 Tk rfl rfl rfl ?_
            refine go_pure0 Tk rfl rfl rfl ?_
            refine go_nil ?_
            refine go_env [(2, _), (7, _), (8, _), (9, _), (11, _), (16, _), (17, _), (20, _), (21, _), (22, _)] ⟨rfl, rfl, rfl, rfl, rfl, rfl, rfl, rfl, rfl, rfl, trivial⟩ ?_
            refine go_seq ?_
            refine go_region ?_
            refine go_pure0 Tk rfl rfl rfl ?_
            refine go_val0 rfl (load_val Tk rfl rfl rfl (by first | exact at_pt (by repeat constructor) (by rfl) | exact at_cl 0 (by repeat constructor) (by rfl) | exact at_cl 1 (by repeat constructor) (by rfl) | exact at_cl 2 (by repeat constructor) (by rfl) | exact at_cl 3 (by repeat constructor) (by rfl) | exact at_cl 4 (by repeat constructor) (by rfl) | exact at_cl 5 (by repeat constructor) (by rfl) | exact at_cl 6 (by repeat constructor) (by rfl) | exact at_cl 7 (by repeat constructor) (by rfl)) (by rfl)) rfl ?_
            refine go_call (cacheGet b (m : Int) (held m (DRr l 0)) (kq l[j]) _ _ (held_ok (DR_ok l 0)) (kq_ok _) (by simp [kq])) rfl rfl (by rfl) rfl (by repeat constructor) (by repeat constructor) (fun h => nomatch h) ?_
            rintro _ _ _ ⟨rfl, rfl, rfl⟩
            rw [room_get hjl hin]
            refine go_pure0 Tk rfl rfl rfl ?_
            refine go_pure0 Tk rfl rfl rfl ?_
            refine go_pure0 Tk rfl rfl rfl ?_
            refine go_pure0 Tk rfl rfl rfl ?_
            refine go_pure0 Tk rfl rfl rfl ?_
            refine go_nil ?_
            refine go_env [(2, _), (7, _), (8, _), (9, _), (11, _), (16, _), (17, _), (21, _), (22, _), (23, _), (24, _)] ⟨rfl, rfl, rfl, rfl, rfl, rfl, rfl, rfl, rfl, rfl, rfl, trivial⟩ ?_
            refine go_seq ?_
            refine go_seq ?_
            refine go_region ?_
            refine go_pure0 Tk rfl rfl rfl ?_
            refine go_pure0 Tk rfl rfl rfl ?_
            refine go_pure0 Tk rfl rfl rfl ?_
            refine go_pure0 Tk rfl rfl rfl ?_
            refine go_pure0 Tk rfl rfl rfl ?_
            refine go_re 155 (.bool false) (by show some (Value.bool (!(decide ((recent (DRr l (j + 1))).length < n) == decide (((recent (DRr l (j + 1))).length : Int) < (n : Int))))) = _; rw [show decide ((recent (DRr l (j + 1))).length < n) = decide (((recent (DRr l (j + 1))).length : Int) < (n : Int)) from by rw [decide_eq_decide]; omega]; simp) ?_
            refine go_pure0 Tk rfl rfl rfl ?_
            refine go_pure0 Tk rfl rfl rfl ?_
            refine go_pure0 Tk rfl rfl rfl ?_
            refine go_pure0 Tk rfl rfl rfl ?_
            refine go_pure0 Tk rfl rfl rfl ?_
            refine go_pure0 Tk rfl rfl rfl ?_
            refine go_re 161 (.bool false) (by show some (Value.bool (!(decide ((recent (DRr l (j + 1))).length < m) == decide (((recent (DRr l (j + 1))).length : Int) < (m : Int))))) = _; rw [show decide ((recent (DRr l (j + 1))).length < m) = decide (((recent (DRr l (j + 1))).length : Int) < (m : Int)) from by rw [decide_eq_decide]; omega]; simp) ?_
            refine go_pure0 Tk rfl rfl rfl ?_
            refine go_pure0 Tk rfl rfl rfl ?_
            refine go_pure0 Tk rfl rfl rfl ?_
            refine go_pure0 Tk rfl rfl rfl ?_
            refine go_known 165 rfl ?_ ?_
            · intro g7
              (try simp only [decide_eq_true_eq, decide_eq_false_iff_not, Bool.not_eq_true', Bool.not_eq_false', Bool.not_eq_eq_eq_not, Bool.not_true, Bool.not_false, Int.not_lt, Int.not_le, beq_iff_eq, beq_eq_false_iff_ne, ne_eq] at g7)
              refine go_pure0 Tk rfl rfl rfl ?_
              refine go_pure0 Tk rfl rfl rfl ?_
              refine go_pure0 Tk rfl rfl rfl ?_
              refine go_val0 rfl (idx_val Tk rfl rfl rfl rfl rfl (by omega)) rfl ?_
              refine go_val0 rfl (load_val Tk rfl rfl rfl (by first | exact at_pt (by repeat constructor) (by rfl) | exact at_cl 0 (by repeat constructor) (by rfl) | exact at_cl 1 (by repeat constructor) (by rfl) | exact at_cl 2 (by repeat constructor) (by rfl) | exact at_cl 3 (by repeat constructor) (by rfl) | exact at_cl 4 (by repeat constructor) (by rfl) | exact at_cl 5 (by repeat constructor) (by rfl) | exact at_cl 6 (by repeat constructor) (by rfl) | exact at_cl 7 (by repeat constructor) (by rfl)) (by rfl)) rfl ?_
              refine go_pure0 Tk rfl rfl rfl ?_
              refine go_re 171 (.int .u8 (l[j] % 3)) (by show some (Value.int _ (Int.tmod _ _)) = _; rw [Int.tmod_eq_emod_of_nonneg (by omega)]) ?_
              refine go_pure0 Tk rfl rfl rfl ?_
              refine go_re 172 (.bool false) (by show some (Value.bool (!decide ((if (recent (DRr l (j + 1))).length < n then l[j] % 3 else 0) = l[j] % 3))) = _; rw [if_pos g7]; simp) ?_
              refine go_pure0 Tk rfl rfl rfl ?_
              refine go_pure0 Tk rfl rfl rfl ?_
              refine go_pure0 Tk rfl rfl rfl ?_
              refine go_pure0 Tk rfl rfl rfl ?_
              refine go_pure0 Tk rfl rfl rfl ?_
              refine go_known 177 rfl ?_ ?_
              · intro g8
                (try simp only [decide_eq_true_eq, decide_eq_false_iff_not, Bool.not_eq_true', Bool.not_eq_false', Bool.not_eq_eq_eq_not, Bool.not_true, Bool.not_false, Int.not_lt, Int.not_le, beq_iff_eq, beq_eq_false_iff_ne, ne_eq] at g8)
                refine go_pure0 Tk rfl rfl rfl ?_
                refine go_pure0 Tk rfl rfl rfl ?_
                refine go_pure0 Tk rfl rfl rfl ?_
                refine go_val0 rfl (idx_val Tk rfl rfl rfl rfl rfl (by omega)) rfl ?_
                refine go_val0 rfl (load_val Tk rfl rfl rfl (by first | exact at_pt (by repeat constructor) (by rfl) | exact at_cl 0 (by repeat constructor) (by rfl) | exact at_cl 1 (by repeat constructor) (by rfl) | exact at_cl 2 (by repeat constructor) (by rfl) | exact at_cl 3 (by repeat constructor) (by rfl) | exact at_cl 4 (by repeat constructor) (by rfl) | exact at_cl 5 (by repeat constructor) (by rfl) | exact at_cl 6 (by repeat constructor) (by rfl) | exact at_cl 7 (by repeat constructor) (by rfl)) (by rfl)) rfl ?_
                refine go_pure0 Tk rfl rfl rfl ?_
                refine go_re 183 (.int .u8 (l[j] % 3)) (by show some (Value.int _ (Int.tmod _ _)) = _; rw [Int.tmod_eq_emod_of_nonneg (by omega)]) ?_
                refine go_pure0 Tk rfl rfl rfl ?_
                refine go_re 184 (.bool false) (by show some (Value.bool (!decide ((if (recent (DRr l (j + 1))).length < m then l[j] % 3 else 0) = l[j] % 3))) = _; rw [if_pos g8]; simp) ?_
                refine go_pure0 Tk rfl rfl rfl ?_
                refine go_pure0 Tk rfl rfl rfl ?_
                refine go_nil ?_
                refine go_env [(2, _), (7, _), (8, _), (9, _), (11, _), (16, _), (17, _), (157, _), (158, _), (159, _), (160, _), (161, _), (164, _), (165, _), (166, _), (167, _), (168, _), (169, _), (170, _), (171, _), (172, _), (173, _), (176, _), (177, _), (178, _), (179, _), (180, _), (181, _), (182, _), (183, _), (184, _), (185, _), (186, _)] ⟨rfl, rfl, rfl, rfl, rfl, rfl, rfl, rfl, rfl, rfl, rfl, rfl, rfl, rfl, rfl, rfl, rfl, rfl, rfl, rfl, rfl, rfl, rfl, rfl, rfl, rfl, rfl, rfl, rfl, rfl, rfl, rfl, rfl, trivial⟩ ?_
                refine go_cond_f rfl ?_
                refine go_skip ?_
                refine go_region ?_
                refine go_pure0 Tk rfl rfl rfl ?_
                refine go_pure0 Tk rfl rfl rfl ?_
                refine go_pure0 Tk rfl rfl rfl ?_
                refine go_nil ?_
                refine go_env [(2, _), (7, _), (8, _), (9, _), (11, _), (16, _), (17, _), (157, _), (158, _), (159, _), (160, _), (161, _), (164, _), (165, _), (166, _), (167, _), (168, _), (169, _), (170, _), (171, _), (172, _), (173, _), (176, _), (177, _), (178, _), (179, _), (180, _), (181, _), (182, _), (183, _), (184, _), (185, _)] ⟨rfl, rfl, rfl, rfl, rfl, rfl, rfl, rfl, rfl, rfl, rfl, rfl, rfl, rfl, rfl, rfl, rfl, rfl, rfl, rfl, rfl, rfl, rfl, rfl, rfl, rfl, rfl, rfl, rfl, rfl, rfl, rfl, trivial⟩ ?_
                refine go_blk ?_
                refine go_region ?_
                refine go_pure0 Tk rfl rfl rfl ?_
                refine go_pure0 Tk rfl rfl rfl ?_
                refine go_pure0 Tk rfl rfl rfl ?_
                refine go_nil ?_
                refine go_i64 17 rfl (by omega) (by omega) ?_
                refine go_i64 16 rfl (by omega) (by omega) ?_
                refine go_re 16 (.int .i64 ((recent (DRr l j)).length : Int)) (by rw [far_next hjl hin]; show some (Value.int _ _) = some (Value.int _ _); congr 2; simp) ?_
                refine go_back j ⟨rfl, rfl, rfl, rfl, rfl, rfl, rfl, trivial⟩ (by repeat constructor) (by repeat constructor) (by omega) (by omega)
              · intro g8
                (try simp only [decide_eq_true_eq, decide_eq_false_iff_not, Bool.not_eq_true', Bool.not_eq_false', Bool.not_eq_eq_eq_not, Bool.not_true, Bool.not_false, Int.not_lt, Int.not_le, beq_iff_eq, beq_eq_false_iff_ne, ne_eq] at g8)
                refine go_skip0 rfl rfl ?_
                refine go_skip0 rfl rfl ?_
                refine go_skip0 rfl rfl ?_
                refine go_skip0 rfl rfl ?_
                refine go_skip0 rfl rfl ?_
                refine go_skip0 rfl rfl ?_
                refine go_skip0 rfl rfl ?_
                refine go_pure0 Tk rfl rfl rfl ?_
                refine go_pure0 Tk rfl rfl rfl ?_
                refine go_nil ?_
                refine go_env [(2, _), (7, _), (8, _), (9, _), (11, _), (16, _), (17, _), (157, _), (158, _), (159, _), (160, _), (161, _), (164, _), (165, _), (166, _), (167, _), (168, _), (169, _), (170, _), (171, _), (172, _), (173, _), (176, _), (177, _), (178, _), (179, _), (180, _), (181, _), (182, _), (183, _), (184, _), (185, _), (186, _)] ⟨rfl, rfl, rfl, rfl, rfl, rfl, rfl, rfl, rfl, rfl, rfl, rfl, rfl, rfl, rfl, rfl, rfl, rfl, rfl, rfl, rfl, rfl, rfl, rfl, rfl, rfl, rfl, rfl, rfl, rfl, rfl, rfl, rfl, trivial⟩ ?_
                refine go_cond_f rfl ?_
                refine go_skip ?_
                refine go_region ?_
                refine go_pure0 Tk rfl rfl rfl ?_
                refine go_pure0 Tk rfl rfl rfl ?_
                refine go_pure0 Tk rfl rfl rfl ?_
                refine go_nil ?_
                refine go_env [(2, _), (7, _), (8, _), (9, _), (11, _), (16, _), (17, _), (157, _), (158, _), (159, _), (160, _), (161, _), (164, _), (165, _), (166, _), (167, _), (168, _), (169, _), (170, _), (171, _), (172, _), (173, _), (176, _), (177, _), (178, _), (179, _), (180, _), (181, _), (182, _), (183, _), (184, _), (185, _)] ⟨rfl, rfl, rfl, rfl, rfl, rfl, rfl, rfl, rfl, rfl, rfl, rfl, rfl, rfl, rfl, rfl, rfl, rfl, rfl, rfl, rfl, rfl, rfl, rfl, rfl, rfl, rfl, rfl, rfl, rfl, rfl, rfl, trivial⟩ ?_
                refine go_blk ?_
                refine go_region ?_
                refine go_pure0 Tk rfl rfl rfl ?_
                refine go_pure0 Tk rfl rfl rfl ?_
                refine go_pure0 Tk rfl rfl rfl ?_
                refine go_nil ?_
                refine go_i64 17 rfl (by omega) (by omega) ?_
                refine go_i64 16 rfl (by omega) (by omega) ?_
                refine go_re 16 (.int .i64 ((recent (DRr l j)).length : Int)) (by rw [far_next hjl hin]; show some (Value.int _ _) = some (Value.int _ _); congr 2; simp) ?_
                refine go_back j ⟨rfl, rfl, rfl, rfl, rfl, rfl, rfl, trivial⟩ (by repeat constructor) (by repeat constructor) (by omega) (by omega)
            · intro g7
              (try simp only [decide_eq_true_eq, decide_eq_false_iff_not, Bool.not_eq_true', Bool.not_eq_false', Bool.not_eq_eq_eq_not, Bool.not_true, Bool.not_false, Int.not_lt, Int.not_le, beq_iff_eq, beq_eq_false_iff_ne, ne_eq] at g7)
              refine go_skip0 rfl rfl ?_
              refine go_skip0 rfl rfl ?_
              refine go_skip0 rfl rfl ?_
              refine go_skip0 rfl rfl ?_
              refine go_skip0 rfl rfl ?_
              refine go_skip0 rfl rfl ?_
              refine go_skip0 rfl rfl ?_
              refine go_pure0 Tk rfl rfl rfl ?_
              refine go_pure0 Tk rfl rfl rfl ?_
              refine go_pure0 Tk rfl rfl rfl ?_
              refine go_pure0 Tk rfl rfl rfl ?_
              refine go_pure0 Tk rfl rfl rfl ?_
              refine go_known 177 rfl ?_ ?_
              · intro g8
                (try simp only [decide_eq_true_eq, decide_eq_false_iff_not, Bool.not_eq_true', Bool.not_eq_false', Bool.not_eq_eq_eq_not, Bool.not_true, Bool.not_false, Int.not_lt, Int.not_le, beq_iff_eq, beq_eq_false_iff_ne, ne_eq] at g8)
                refine go_pure0 Tk rfl rfl rfl ?_
                refine go_pure0 Tk rfl rfl rfl ?_
                refine go_pure0 Tk rfl rfl rfl ?_
                refine go_val0 rfl (idx_val Tk rfl rfl rfl rfl rfl (by omega)) rfl ?_
                refine go_val0 rfl (load_val Tk rfl rfl rfl (by first | exact at_pt (by repeat constructor) (by rfl) | exact at_cl 0 (by repeat constructor) (by rfl) | exact at_cl 1 (by repeat constructor) (by rfl) | exact at_cl 2 (by repeat constructor) (by rfl) | exact at_cl 3 (by repeat constructor) (by rfl) | exact at_cl 4 (by repeat constructor) (by rfl) | exact at_cl 5 (by repeat constructor) (by rfl) | exact at_cl 6 (by repeat constructor) (by rfl) | exact at_cl 7 (by repeat constructor) (by rfl)) (by rfl)) rfl ?_
                refine go_pure0 Tk rfl rfl rfl ?_
                refine go_re 183 (.int .u8 (l[j] % 3)) (by show some (Value.int _ (Int.tmod _ _)) = _; rw [Int.tmod_eq_emod_of_nonneg (by omega)]) ?_
                refine go_pure0 Tk rfl rfl rfl ?_
                refine go_re 184 (.bool false) (by show some (Value.bool (!decide ((if (recent (DRr l (j + 1))).length < m then l[j] % 3 else 0) = l[j] % 3))) = _; rw [if_pos g8]; simp) ?_
                refine go_pure0 Tk rfl rfl rfl ?_
                refine go_pure0 Tk rfl rfl rfl ?_
                refine go_nil ?_
                refine go_env [(2, _), (7, _), (8, _), (9, _), (11, _), (16, _), (17, _), (157, _), (158, _), (159, _), (160, _), (161, _), (164, _), (165, _), (166, _), (167, _), (168, _), (169, _), (170, _), (171, _), (172, _), (173, _), (176, _), (177, _), (178, _), (179, _), (180, _), (181, _), (182, _), (183, _), (184, _), (185, _), (186, _)] ⟨rfl, rfl, rfl, rfl, rfl, rfl, rfl, rfl, rfl, rfl, rfl, rfl, rfl, rfl, rfl, rfl, rfl, rfl, rfl, rfl, rfl, rfl, rfl, rfl, rfl, rfl, rfl, rfl, rfl, rfl, rfl, rfl, rfl, trivial⟩ ?_
                refine go_cond_f rfl ?_
                refine go_skip ?_
                refine go_region ?_
                refine go_pure0 Tk rfl rfl rfl ?_
                refine go_pure0 Tk rfl rfl rfl ?_
                refine go_pure0 Tk rfl rfl rfl ?_
                refine go_nil ?_
                refine go_env [(2, _), (7, _), (8, _), (9, _), (11, _), (16, _), (17, _), (157, _), (158, _), (159, _), (160, _), (161, _), (164, _), (165, _), (166, _), (167, _), (168, _), (169, _), (170, _), (171, _), (172, _), (173, _), (176, _), (177, _), (178, _), (179, _), (180, _), (181, _), (182, _), (183, _), (184, _), (185, _)] ⟨rfl, rfl, rfl, rfl, rfl, rfl, rfl, rfl, rfl, rfl, rfl, rfl, rfl, rfl, rfl, rfl, rfl, rfl, rfl, rfl, rfl, rfl, rfl, rfl, rfl, rfl, rfl, rfl, rfl, rfl, rfl, rfl, trivial⟩ ?_
                refine go_blk ?_
                refine go_region ?_
                refine go_pure0 Tk rfl rfl rfl ?_
                refine go_pure0 Tk rfl rfl rfl ?_
                refine go_pure0 Tk rfl rfl rfl ?_
                refine go_nil ?_
                refine go_i64 17 rfl (by omega) (by omega) ?_
                refine go_i64 16 rfl (by omega) (by omega) ?_
                refine go_re 16 (.int .i64 ((recent (DRr l j)).length : Int)) (by rw [far_next hjl hin]; show some (Value.int _ _) = some (Value.int _ _); congr 2; simp) ?_
                refine go_back j ⟨rfl, rfl, rfl, rfl, rfl, rfl, rfl, trivial⟩ (by repeat constructor) (by repeat constructor) (by omega) (by omega)
              · intro g8
                (try simp only [decide_eq_true_eq, decide_eq_false_iff_not, Bool.not_eq_true', Bool.not_eq_false', Bool.not_eq_eq_eq_not, Bool.not_true, Bool.not_false, Int.not_lt, Int.not_le, beq_iff_eq, beq_eq_false_iff_ne, ne_eq] at g8)
                refine go_skip0 rfl rfl ?_
                refine go_skip0 rfl rfl ?_
                refine go_skip0 rfl rfl ?_
                refine go_skip0 rfl rfl ?_
                refine go_skip0 rfl rfl ?_
                refine go_skip0 rfl rfl ?_
                refine go_skip0 rfl rfl ?_
                refine go_pure0 Tk rfl rfl rfl ?_
                refine go_pure0 Tk rfl rfl rfl ?_
                refine go_nil ?_
                refine go_env [(2, _), (7, _), (8, _), (9, _), (11, _), (16, _), (17, _), (157, _), (158, _), (159, _), (160, _), (161, _), (164, _), (165, _), (166, _), (167, _), (168, _), (169, _), (170, _), (171, _), (172, _), (173, _), (176, _), (177, _), (178, _), (179, _), (180, _), (181, _), (182, _), (183, _), (184, _), (185, _), (186, _)] ⟨rfl, rfl, rfl, rfl, rfl, rfl, rfl, rfl, rfl, rfl, rfl, rfl, rfl, rfl, rfl, rfl, rfl, rfl, rfl, rfl, rfl, rfl, rfl, rfl, rfl, rfl, rfl, rfl, rfl, rfl, rfl, rfl, rfl, trivial⟩ ?_
                refine go_cond_f rfl ?_
                refine go_skip ?_
                refine go_region ?_
                refine go_pure0 Tk rfl rfl rfl ?_
                refine go_pure0 Tk rfl rfl rfl ?_
                refine go_pure0 Tk rfl rfl rfl ?_
                refine go_nil ?_
                refine go_env [(2, _), (7, _), (8, _), (9, _), (11, _), (16, _), (17, _), (157, _), (158, _), (159, _), (160, _), (161, _), (164, _), (165, _), (166, _), (167, _), (168, _), (169, _), (170, _), (171, _), (172, _), (173, _), (176, _), (177, _), (178, _), (179, _), (180, _), (181, _), (182, _), (183, _), (184, _), (185, _)] ⟨rfl, rfl, rfl, rfl, rfl, rfl, rfl, rfl, rfl, rfl, rfl, rfl, rfl, rfl, rfl, rfl, rfl, rfl, rfl, rfl, rfl, rfl, rfl, rfl, rfl, rfl, rfl, rfl, rfl, rfl, rfl, rfl, trivial⟩ ?_
                refine go_blk ?_
                refine go_region ?_
                refine go_pure0 Tk rfl rfl rfl ?_
                refine go_pure0 Tk rfl rfl rfl ?_
                refine go_pure0 Tk rfl rfl rfl ?_
                refine go_nil ?_
                refine go_i64 17 rfl (by omega) (by omega) ?_
                refine go_i64 16 rfl (by omega) (by omega) ?_
                refine go_re 16 (.int .i64 ((recent (DRr l j)).length : Int)) (by rw [far_next hjl hin]; show some (Value.int _ _) = some (Value.int _ _); congr 2; simp) ?_
                refine go_back j ⟨rfl, rfl, rfl, rfl, rfl, rfl, rfl, trivial⟩ (by repeat constructor) (by repeat constructor) (by omega) (by omega)
      · intro c5
        obtain rfl : k = 0 := by omega
        refine go_exit rfl ?_
        refine go_seq ?_
        have hA1 := held_len n (DRr l 0)
        have hA2 := held_len m (DRr l 0)
        refine go_region ?_
        refine go_pure0 Tk rfl rfl rfl ?_
        refine go_call (cacheLen a (n : Int) (held n (DRr l 0))) rfl rfl (by rfl) rfl (by repeat constructor) (by repeat constructor) (fun h => nomatch h) ?_
        rintro _ _ _ ⟨rfl, rfl, rfl⟩
        refine go_pure0 Tk rfl rfl rfl ?_
        refine go_pure0 Tk rfl rfl rfl ?_
        refine go_val0 rfl (min_val rfl rfl rfl) rfl ?_
        refine go_pure0 Tk rfl rfl rfl ?_
        refine go_re 194 (.bool true) (by show some (Value.bool (decide (_ = _))) = _; rw [decide_eq_true]; rw [held_len]; split <;> omega) ?_
        refine go_pure0 Tk rfl rfl rfl ?_
        refine go_pure0 Tk rfl rfl rfl ?_
        refine go_call (cacheLen b (m : Int) (held m (DRr l 0))) rfl rfl (by rfl) rfl (by repeat constructor) (by repeat constructor) (fun h => nomatch h) ?_
        rintro _ _ _ ⟨rfl, rfl, rfl⟩
        refine go_pure0 Tk rfl rfl rfl ?_
        refine go_pure0 Tk rfl rfl rfl ?_
        refine go_val0 rfl (min_val rfl rfl rfl) rfl ?_
        refine go_pure0 Tk rfl rfl rfl ?_
        refine go_re 201 (.bool true) (by show some (Value.bool (decide (_ = _))) = _; rw [decide_eq_true]; rw [held_len]; split <;> omega) ?_
        refine go_pure0 Tk rfl rfl rfl ?_
        refine go_pure0 Tk rfl rfl rfl ?_
        refine go_call (cacheWorks) rfl rfl (by rfl) rfl (by repeat constructor) (by repeat constructor) (fun h => nomatch h) ?_
        rintro _ _ _ ⟨rfl, rfl, rfl⟩
        refine go_pure0 Tk rfl rfl rfl ?_
        refine go_pure0 Tk rfl rfl rfl ?_
        refine go_nil ?_
        refine go_env [(6, _)] ⟨rfl, trivial⟩ ?_
        refine go_ret _ _ (fun a w hp ho hf hs => res1 (by rfl) (.tmp rfl) a w hp ho hf hs) ⟨rfl, rfl, rfl⟩ (by repeat constructor) (by repeat constructor)

end Go.Proofs.Ytdkfpgdfjnaciaa.SL
