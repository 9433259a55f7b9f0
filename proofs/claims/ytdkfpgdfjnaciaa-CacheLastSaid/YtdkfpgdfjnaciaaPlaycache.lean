/- Contracts of functions of the program (Playcache): what each call comes to, for the laws' proofs. -/
import Derived.Test.YtdkfpgdfjnaciaaCachec
import Derived.Test.YtdkfpgdfjnaciaaRefcache
set_option linter.unusedVariables false
set_option linter.unusedSimpArgs false
namespace Go.Proofs.Ytdkfpgdfjnaciaa.SL
open Go 

set_option maxHeartbeats 2000000 in
set_option maxRecDepth 20000 in
theorem cacheFew (A : Option Addr) (c : Nat) (l : List Sc) :
    Spec Try.prog 22 #[.slice A l.length c] [sl tSc A c l] [] (fun v Ps' Os' => v = .bool (fewB l) ∧ Ps' = [] ∧ Os' = []) := by
  refine spec_of (fn := Try.f22) (args := [.slice A l.length c]) 21 Try.func22 rfl (by kernel_rfl) Try.ntmps22 (Nat.le_of_ble_eq_true rfl) (fun w0 hp0 hf0 => ?_)
  refine go_seq ?_
  refine go_len (xs := l) (by repeat constructor) (fun l0 m0 => ?_)
  refine go_region ?_
  refine go_pure0 Tk rfl rfl rfl ?_
  refine go_nil ?_
  refine go_env [(0, _)] ⟨rfl, trivial⟩ ?_
  refine go_seq ?_
  refine go_seq ?_
  refine go_region ?_
  refine go_pure0 Tk rfl rfl rfl ?_
  refine go_pure0 Tk rfl rfl rfl ?_
  refine go_pure0 Tk rfl rfl rfl ?_
  refine go_nil ?_
  refine go_env [(0, _), (6, _)] ⟨rfl, rfl, trivial⟩ ?_
  refine go_condD rfl ?_ ?_
  · intro c1
    refine go_seq ?_
    refine go_region ?_
    refine go_pure0 Tk rfl rfl rfl ?_
    refine go_nil ?_
    refine go_env [(2, _)] ⟨rfl, trivial⟩ ?_
    refine go_ret _ _ (fun a w hp ho hf hs => res1 (by rfl) (.tmp rfl) a w hp ho hf hs) ⟨by rw [few_no (by omega)], rfl, rfl⟩ (by repeat constructor) (by repeat constructor)
  · intro c1
    refine go_skip ?_
    refine go_seq ?_
    refine go_seq ?_
    refine go_region ?_
    refine go_pure0 Tk rfl rfl rfl ?_
    refine go_nil ?_
    refine go_env [(0, _), (3, _)] ⟨rfl, rfl, trivial⟩ ?_
    refine go_block ?_
    refine go_loop' (X := Nat) (fun k => [(3, .int .i64 (k : Int))]) [(0, _)] (fun _ => []) (fun k => k ≤ l.length ∧ ∀ x ∈ l.take k, x.q.a.length ≤ 30) (fun k => l.length - k) (0) ⟨rfl, rfl, trivial⟩ (by repeat constructor) ⟨by omega, by simp⟩ ?_
    intro k ⟨hk, hz⟩
    refine go_seq ?_
    refine go_seq ?_
    refine go_region ?_
    refine go_pure0 Tk rfl rfl rfl ?_
    refine go_pure0 Tk rfl rfl rfl ?_
    refine go_pure0 Tk rfl rfl rfl ?_
    refine go_pure0 Tk rfl rfl rfl ?_
    refine go_nil ?_
    refine go_env [(0, _), (3, _), (10, _)] ⟨rfl, rfl, rfl, trivial⟩ ?_
    refine go_condD rfl ?_ ?_
    · intro c1
      refine go_skip ?_
      refine go_seq ?_
      refine go_block ?_
      refine go_seq ?_
      refine go_elem_sc (xs := l) (by repeat constructor) (k) (List.getElem?_eq_getElem (by omega)) (fun b3 o3 QA qc hA => ?_); cases hA
      refine go_len (xs := l[k].q.a) (by repeat constructor) (fun l7 m7 => ?_)
      refine go_region ?_
      refine go_pure0 Tk rfl rfl rfl ?_
      refine go_pure0 Tk rfl rfl rfl ?_
      refine go_val0 rfl (idx_val Tk rfl rfl rfl rfl rfl (by omega)) rfl ?_
      refine go_pure0 Tk rfl rfl rfl ?_
      refine go_pure0 Tk rfl rfl rfl ?_
      refine go_val0 rfl (load_val Tk rfl rfl rfl (by first | exact at_pt (by repeat constructor) (by rfl) | exact at_cl 0 (by repeat constructor) (by rfl) | exact at_cl 1 (by repeat constructor) (by rfl) | exact at_cl 2 (by repeat constructor) (by rfl) | exact at_cl 3 (by repeat constructor) (by rfl) | exact at_cl 4 (by repeat constructor) (by rfl) | exact at_cl 5 (by repeat constructor) (by rfl) | exact at_cl 6 (by repeat constructor) (by rfl) | exact at_cl 7 (by repeat constructor) (by rfl)) (by rfl)) rfl ?_
      refine go_pure0 Tk rfl rfl rfl ?_
      refine go_pure0 Tk rfl rfl rfl ?_
      refine go_nil ?_
      refine go_env [(0, _), (3, _), (20, _)] ⟨rfl, rfl, rfl, trivial⟩ ?_
      refine go_condD rfl ?_ ?_
      · intro c3
        refine go_seq ?_
        refine go_region ?_
        refine go_pure0 Tk rfl rfl rfl ?_
        refine go_nil ?_
        refine go_env [(2, _)] ⟨rfl, trivial⟩ ?_
        refine go_ret _ _ (fun a w hp ho hf hs => res1 (by rfl) (.tmp rfl) a w hp ho hf hs) ⟨by rw [few_bad (k := k) (by omega) (by omega)], rfl, rfl⟩ (by repeat constructor) (by repeat constructor)
      · intro c3
        refine go_skip ?_
        refine go_blk ?_
        refine go_region ?_
        refine go_pure0 Tk rfl rfl rfl ?_
        refine go_pure0 Tk rfl rfl rfl ?_
        refine go_pure0 Tk rfl rfl rfl ?_
        refine go_nil ?_
        refine go_i64 3 rfl (by omega) (by omega) ?_
        refine go_back (k + 1) ⟨rfl, rfl, trivial⟩ (by repeat constructor) (by repeat constructor) (⟨by omega, mem_take_next (by omega) hz (by omega)⟩) (by omega)
    · intro c1
      refine go_exit rfl ?_
      refine go_seq ?_
      refine go_region ?_
      refine go_pure0 Tk rfl rfl rfl ?_
      refine go_nil ?_
      refine go_env [(2, _)] ⟨rfl, trivial⟩ ?_
      refine go_ret _ _ (fun a w hp ho hf hs => res1 (by rfl) (.tmp rfl) a w hp ho hf hs) ⟨by rw [few_yes (by omega) (by rw [List.take_of_length_le (by omega)] at hz; exact hz)], rfl, rfl⟩ (by repeat constructor) (by repeat constructor)

theorem free_cch {b : Nat} {R : Int} {l : List En} : (cch b R l).free := free_ex fun A => free_ex fun c => free_all fun B hB => by simp only [List.mem_cons, List.not_mem_nil, or_false] at hB; rcases hB with rfl | rfl <;> first | exact free_pt | exact free_ol tEn_flat
theorem cachePutLent (e : Nat) (b : Nat) (R : Int) (l : List En) (q : Fa) (QA : Option Addr) (qc : Nat) (hl : ∀ x ∈ l, x.1.ok) (hq : q.ok) (hn : q.a.length ≤ 1000) (v : Int) (hm : l.length ≤ 100000) :
    Spec Try.prog 19 #[.pointer (some ⟨b, 0, none⟩), .agg #[.int .u32 q.p, .slice QA q.a.length qc], .int .u8 v] [] [ol tU e QA qc q.a, cch b R l] (fun w Ps' Os' => w = .int .i64 0 ∧ Ps' = [] ∧ Os' = [ol tU e QA qc q.a, cch b R (cput R l q v)]) :=
  ((cachePut b R l q QA qc hl hq hn v hm).lend (ol tU e QA qc q.a) lend_ol (fun v P' O' ⟨_, h2, h3⟩ => ⟨h2, fun B hB => by subst h3; rw [List.mem_singleton] at hB; subst hB; exact free_cch⟩)).imp fun v P O ⟨O', ⟨h1, _, h3⟩, h4, h5⟩ => ⟨h1, h4, by rw [h5, h3]⟩
theorem cacheNewW (r : Int) : Spec Try.prog 18 #[.int .i64 r] [] [] (fun v Ps' Os' => ∃ b, v = .tuple #[.pointer (if 1 ≤ r ∧ r ≤ 64 then some ⟨b, 0, none⟩ else none), .int .i64 (if 1 ≤ r ∧ r ≤ 64 then 0 else 1)] ∧ Ps' = [] ∧ Os' = [OA.when (1 ≤ r ∧ r ≤ 64) (cch b r [])]) :=
  (cacheNew r).imp2 fun v P O q => by
    rcases q with ⟨h1, h2, b, rfl, rfl, rfl⟩ | ⟨h1, rfl, rfl, rfl⟩
    · exact ⟨[OA.when (1 ≤ r ∧ r ≤ 64) (cch b r [])], fun hp h q => by obtain ⟨g1, g2, a, b', c, d, e⟩ := q; exact ⟨g1, g2, a, b', c, fun _ => d, e⟩, b, by rw [if_pos ⟨h1, h2⟩, if_pos ⟨h1, h2⟩], rfl, rfl⟩
    · exact ⟨[OA.when (1 ≤ r ∧ r ≤ 64) (cch 0 r [])], fun hp h q => ⟨h, Heap.nil, Heap.le_refl _, Heap.nil_le _, Heap.dj_symm (Heap.nil_dj _), fun hh => absurd hh (by omega), trivial⟩, 0, by rw [if_neg (by omega), if_neg (by omega)], rfl, rfl⟩

set_option maxHeartbeats 2000000 in
set_option maxRecDepth 20000 in
theorem lawCachePlays (R : Int) (hR : -9223372036854775808 ≤ R ∧ R ≤ 9223372036854775807) (l : List Sc) (A : Option Addr) (c : Nat) (hl : ∀ x ∈ l, x.ok) :
    Spec Try.prog 4 #[.int .i64 R, .slice A l.length c] [sl tSc A c l] [] (fun v Ps' Os' => v = .bool true ∧ Ps' = [] ∧ Os' = []) := by
  refine spec_of (fn := Try.f4) (args := [.int .i64 R, .slice A l.length c]) 176 Try.func4 rfl (by kernel_rfl) Try.ntmps4 (Nat.le_of_ble_eq_true rfl) (fun w0 hp0 hf0 => ?_)
  refine go_seq ?_
  refine go_len (xs := l) (by repeat constructor) (fun l0 m0 => ?_)
  refine go_region ?_
  refine go_pure0 Tk rfl rfl rfl ?_
  refine go_nil ?_
  refine go_env [(0, _), (1, _)] ⟨rfl, rfl, trivial⟩ ?_
  refine go_seq ?_
  refine go_seq ?_
  refine go_region ?_
  refine go_pure0 Tk rfl rfl rfl ?_
  refine go_call (cacheFew _ _ _) rfl rfl (by rfl) rfl (by repeat constructor) (by repeat constructor) (fun h => nomatch h) ?_
  rintro _ _ _ ⟨rfl, rfl, rfl⟩
  refine go_pure0 Tk rfl rfl rfl ?_
  refine go_nil ?_
  refine go_env [(0, _), (1, _), (21, _)] ⟨rfl, rfl, rfl, trivial⟩ ?_
  refine go_cond rfl ?_ ?_
  · intro c1
    (try simp only [decide_eq_true_eq, decide_eq_false_iff_not, Bool.not_eq_true', Bool.not_eq_false', Bool.not_eq_eq_eq_not, Bool.not_true, Bool.not_false, Int.not_lt, Int.not_le, beq_iff_eq, beq_eq_false_iff_ne, ne_eq] at c1)
    refine go_seq ?_
    refine go_region ?_
    refine go_call (cacheWorks) rfl rfl (by rfl) rfl (by repeat constructor) (by repeat constructor) (fun h => nomatch h) ?_
    rintro _ _ _ ⟨rfl, rfl, rfl⟩
    refine go_pure0 Tk rfl rfl rfl ?_
    refine go_nil ?_
    refine go_env [(4, _)] ⟨rfl, trivial⟩ ?_
    refine go_ret _ _ (fun a w hp ho hf hs => res1 (by rfl) (.tmp rfl) a w hp ho hf hs) ⟨rfl, rfl, rfl⟩ (by repeat constructor) (by repeat constructor)
  · intro c1
    (try simp only [decide_eq_true_eq, decide_eq_false_iff_not, Bool.not_eq_true', Bool.not_eq_false', Bool.not_eq_eq_eq_not, Bool.not_true, Bool.not_false, Int.not_lt, Int.not_le, beq_iff_eq, beq_eq_false_iff_ne, ne_eq] at c1)
    obtain ⟨hw1, hw2⟩ := few_of c1
    refine go_skip ?_
    refine go_seq ?_
    refine go_region ?_
    refine go_pure0 Tk rfl rfl rfl ?_
    refine go_call (cacheNewW R) rfl rfl (by rfl) rfl (by repeat constructor) (by repeat constructor) (fun h => nomatch h) ?_
    rintro _ _ _ ⟨a, rfl, rfl, rfl⟩
    refine go_pure0 Tk rfl rfl rfl ?_
    refine go_pure0 Tk rfl rfl rfl ?_
    refine go_pure0 Tk rfl rfl rfl ?_
    refine go_pure0 Tk rfl rfl rfl ?_
    refine go_pure0 Tk rfl rfl rfl ?_
    refine go_nil ?_
    refine go_env [(0, _), (1, _), (5, _), (6, _)] ⟨rfl, rfl, rfl, rfl, trivial⟩ ?_
    refine go_seq ?_
    refine go_seq ?_
    refine go_region ?_
    refine go_pure0 Tk rfl rfl rfl ?_
    refine go_pure0 Tk rfl rfl rfl ?_
    refine go_pure0 Tk rfl rfl rfl ?_
    refine go_known 30 rfl ?_ ?_
    · intro g1
      (try simp only [decide_eq_true_eq, decide_eq_false_iff_not, Bool.not_eq_true', Bool.not_eq_false', Bool.not_eq_eq_eq_not, Bool.not_true, Bool.not_false, Int.not_lt, Int.not_le, beq_iff_eq, beq_eq_false_iff_ne, ne_eq] at g1)
      refine go_re 5 (.pointer none) (by show some (Value.pointer (if _ then _ else _)) = _; rw [if_neg (by omega)]) ?_
      refine go_re 6 (.int .i64 1) (by show some (Value.int _ (if _ then _ else _)) = _; rw [if_neg (by omega)]) ?_
      refine go_skip0 rfl rfl ?_
      refine go_skip0 rfl rfl ?_
      refine go_pure0 Tk rfl rfl rfl ?_
      refine go_nil ?_
      refine go_env [(0, _), (1, _), (5, _), (6, _), (33, _)] ⟨rfl, rfl, rfl, rfl, rfl, trivial⟩ ?_
      refine go_cond_t rfl ?_
      refine go_seq ?_
      refine go_region ?_
      refine go_pure0 Tk rfl rfl rfl ?_
      refine go_pure0 Tk rfl rfl rfl ?_
      refine go_pure0 Tk rfl rfl rfl ?_
      refine go_pure0 Tk rfl rfl rfl ?_
      refine go_pure0 Tk rfl rfl rfl ?_
      refine go_pure0 Tk rfl rfl rfl ?_
      refine go_pure0 Tk rfl rfl rfl ?_
      refine go_call (cacheWorks) rfl rfl (by rfl) rfl (by repeat constructor) (by repeat constructor) (fun h => nomatch h) ?_
      rintro _ _ _ ⟨rfl, rfl, rfl⟩
      refine go_pure0 Tk rfl rfl rfl ?_
      refine go_pure0 Tk rfl rfl rfl ?_
      refine go_nil ?_
      refine go_env [(4, _)] ⟨rfl, trivial⟩ ?_
      refine go_ret _ _ (fun a w hp ho hf hs => res1 (by rfl) (.tmp rfl) a w hp ho hf hs) ⟨rfl, rfl, rfl⟩ (by repeat constructor) (by repeat constructor)
    · intro g1
      (try simp only [decide_eq_true_eq, decide_eq_false_iff_not, Bool.not_eq_true', Bool.not_eq_false', Bool.not_eq_eq_eq_not, Bool.not_true, Bool.not_false, Int.not_lt, Int.not_le, beq_iff_eq, beq_eq_false_iff_ne, ne_eq] at g1)
      refine go_pure0 Tk rfl rfl rfl ?_
      refine go_pure0 Tk rfl rfl rfl ?_
      refine go_pure0 Tk rfl rfl rfl ?_
      refine go_nil ?_
      refine go_env [(0, _), (1, _), (5, _), (6, _), (33, _)] ⟨rfl, rfl, rfl, rfl, rfl, trivial⟩ ?_
      refine go_cond rfl ?_ ?_
      · intro g2
        (try simp only [decide_eq_true_eq, decide_eq_false_iff_not, Bool.not_eq_true', Bool.not_eq_false', Bool.not_eq_eq_eq_not, Bool.not_true, Bool.not_false, Int.not_lt, Int.not_le, beq_iff_eq, beq_eq_false_iff_ne, ne_eq] at g2)
        refine go_re 5 (.pointer none) (by show some (Value.pointer (if _ then _ else _)) = _; rw [if_neg (by omega)]) ?_
        refine go_re 6 (.int .i64 1) (by show some (Value.int _ (if _ then _ else _)) = _; rw [if_neg (by omega)]) ?_
        refine go_seq ?_
        refine go_region ?_
        refine go_pure0 Tk rfl rfl rfl ?_
        refine go_pure0 Tk rfl rfl rfl ?_
        refine go_pure0 Tk rfl rfl rfl ?_
        refine go_pure0 Tk rfl rfl rfl ?_
        refine go_pure0 Tk rfl rfl rfl ?_
        refine go_pure0 Tk rfl rfl rfl ?_
        refine go_pure0 Tk rfl rfl rfl ?_
        refine go_call (cacheWorks) rfl rfl (by rfl) rfl (by repeat constructor) (by repeat constructor) (fun h => nomatch h) ?_
        rintro _ _ _ ⟨rfl, rfl, rfl⟩
        refine go_pure0 Tk rfl rfl rfl ?_
        refine go_pure0 Tk rfl rfl rfl ?_
        refine go_nil ?_
        refine go_env [(4, _)] ⟨rfl, trivial⟩ ?_
        refine go_ret _ _ (fun a w hp ho hf hs => res1 (by rfl) (.tmp rfl) a w hp ho hf hs) ⟨rfl, rfl, rfl⟩ (by repeat constructor) (by repeat constructor)
      · intro g2
        (try simp only [decide_eq_true_eq, decide_eq_false_iff_not, Bool.not_eq_true', Bool.not_eq_false', Bool.not_eq_eq_eq_not, Bool.not_true, Bool.not_false, Int.not_lt, Int.not_le, beq_iff_eq, beq_eq_false_iff_ne, ne_eq] at g2)
        refine go_when (by repeat constructor) (by omega) ?_
        refine go_re 5 (.pointer (some ⟨a, 0, none⟩)) (by show some (Value.pointer (if _ then _ else _)) = _; rw [if_pos (by omega)]) ?_
        refine go_re 6 (.int .i64 0) (by show some (Value.int _ (if _ then _ else _)) = _; rw [if_pos (by omega)]) ?_
        refine go_skip ?_
        refine go_seq ?_
        refine go_seq ?_
        refine go_region ?_
        refine go_pure0 Tk rfl rfl rfl ?_
        refine go_pure0 Tk rfl rfl rfl ?_
        refine go_pure0 Tk rfl rfl rfl ?_
        refine go_pure0 Tk rfl rfl rfl ?_
        refine go_pure0 Tk rfl rfl rfl ?_
        refine go_pure0 Tk rfl rfl rfl ?_
        refine go_nil ?_
        refine go_env [(0, _), (1, _), (5, _), (48, _)] ⟨rfl, rfl, rfl, rfl, trivial⟩ ?_
        refine go_cond_f rfl ?_
        refine go_skip ?_
        refine go_seq ?_
        refine go_region ?_
        refine go_pure0 Tk rfl rfl rfl ?_
        refine go_val0 rfl (fun a w hp ho hf hs => build_val Tk rfl rfl rfl (by rfl) a w hf) rfl ?_
        refine go_box Tk rfl rfl rfl rfl (by rfl) rfl rfl (fun h => nomatch h) ?_
        intro rb
        refine go_ent (sl tRe none 0 []) (fun _ _ => Sl_nil _ _) ?_
        refine go_foldp [sl tRe none 0 ([])] [pt rb 42 [.int .i64 R, .slice none ([]).length 0]] (rch rb R ([])) (by repeat constructor) (by repeat constructor) (fun _ _ hs q => rch_mk hs q) ?_
        refine go_pure0 Tk rfl rfl rfl ?_
        refine go_nil ?_
        refine go_env [(1, _), (5, _), (7, _)] ⟨rfl, rfl, rfl, trivial⟩ ?_
        refine go_seq ?_
        refine go_seq ?_
        refine go_region ?_
        refine go_pure0 Tk rfl rfl rfl ?_
        refine go_nil ?_
        refine go_env [(1, _), (5, _), (7, _), (8, _)] ⟨rfl, rfl, rfl, rfl, trivial⟩ ?_
        refine go_block ?_
        refine go_loop' (X := Nat × List En) (fun x => [(8, .int .i64 (x.1 : Int))]) [(1, _), (5, _), (7, _)] (fun x => [cch a R x.2, rch rb R x.2]) (fun x => x.1 ≤ l.length ∧ x.2.length ≤ R ∧ (∀ y ∈ x.2, y.1.ok) ∧ keysApart x.2 ∧ ∀ y ∈ x.2, y.1.a.length ≤ 30) (fun x => l.length - x.1) ((0, [])) ⟨rfl, rfl, rfl, rfl, trivial⟩ (by repeat constructor) ⟨by simp, by simp; omega, by simp, keysApart_nil, by simp⟩ ?_
        intro ⟨k, L⟩ ⟨hk, hL1, hL2, hL3, hL4⟩
        simp only at hk hL1 hL2 hL3 hL4 ⊢
        refine go_seq ?_
        refine go_seq ?_
        refine go_region ?_
        refine go_pure0 Tk rfl rfl rfl ?_
        refine go_pure0 Tk rfl rfl rfl ?_
        refine go_pure0 Tk rfl rfl rfl ?_
        refine go_pure0 Tk rfl rfl rfl ?_
        refine go_nil ?_
        refine go_env [(1, _), (5, _), (7, _), (8, _), (55, _)] ⟨rfl, rfl, rfl, rfl, rfl, trivial⟩ ?_
        refine go_condD rfl ?_ ?_
        · intro c1
          refine go_skip ?_
          refine go_seq ?_
          refine go_block ?_
          refine go_seq ?_
          refine go_elem_sc (xs := l) (by repeat constructor) (k) (List.getElem?_eq_getElem (by omega)) (fun b3 o3 QA qc hA => ?_); cases hA
          have hq := hl l[k] (List.getElem_mem _)
          have hlen := hw2 l[k] (List.getElem_mem _)
          generalize l[k] = x at *
          refine go_len (xs := x.q.a) (by repeat constructor) (fun l9 m9 => ?_)
          refine go_region ?_
          refine go_pure0 Tk rfl rfl rfl ?_
          refine go_pure0 Tk rfl rfl rfl ?_
          refine go_val0 rfl (idx_val Tk rfl rfl rfl rfl rfl (by omega)) rfl ?_
          refine go_val0 rfl (load_val Tk rfl rfl rfl (by first | exact at_pt (by repeat constructor) (by rfl) | exact at_cl 0 (by repeat constructor) (by rfl) | exact at_cl 1 (by repeat constructor) (by rfl) | exact at_cl 2 (by repeat constructor) (by rfl) | exact at_cl 3 (by repeat constructor) (by rfl) | exact at_cl 4 (by repeat constructor) (by rfl) | exact at_cl 5 (by repeat constructor) (by rfl) | exact at_cl 6 (by repeat constructor) (by rfl) | exact at_cl 7 (by repeat constructor) (by rfl)) (by rfl)) rfl ?_
          refine go_alloc Tk rfl rfl rfl (by rfl) rfl rfl (fun h => nomatch h) ?_
          intro b1
          refine go_store Tk rfl rfl rfl rfl rfl rfl (by repeat constructor) rfl rfl (by rfl) (fun h => nomatch h) ?_
          refine go_nil ?_
          refine go_env [(1, _), (5, _), (7, _), (8, _), (9, _)] ⟨rfl, rfl, rfl, rfl, rfl, trivial⟩ ?_
          refine go_seq ?_
          refine go_seq ?_
          refine go_region ?_
          refine go_pure0 Tk rfl rfl rfl ?_
          refine go_val0 rfl (load_val Tk rfl rfl rfl (by first | exact at_pt (by repeat constructor) (by rfl) | exact at_cl 0 (by repeat constructor) (by rfl) | exact at_cl 1 (by repeat constructor) (by rfl) | exact at_cl 2 (by repeat constructor) (by rfl) | exact at_cl 3 (by repeat constructor) (by rfl) | exact at_cl 4 (by repeat constructor) (by rfl) | exact at_cl 5 (by repeat constructor) (by rfl) | exact at_cl 6 (by repeat constructor) (by rfl) | exact at_cl 7 (by repeat constructor) (by rfl)) (by rfl)) rfl ?_
          refine go_nil ?_
          refine go_env [(1, _), (5, _), (7, _), (8, _), (9, _), (63, _)] ⟨rfl, rfl, rfl, rfl, rfl, rfl, trivial⟩ ?_
          refine go_cutO (X := List En) (fun _ => []) [(1, _), (5, _), (7, _), (8, _), (9, _)] (fun L => [cch a R L, rch rb R L]) ([cch a R L, rch rb R L]) (fun L => L.length ≤ R ∧ (∀ y ∈ L, y.1.ok) ∧ keysApart L ∧ ∀ y ∈ L, y.1.a.length ≤ 30) ⟨rfl, rfl, rfl, rfl, rfl, trivial⟩ (by repeat constructor) ?_ ?_
          · skip
            refine go_cond rfl ?_ ?_
            · intro cc
              (try simp only [decide_eq_true_eq, decide_eq_false_iff_not, Bool.not_eq_true', Bool.not_eq_false', Bool.not_eq_eq_eq_not, Bool.not_true, Bool.not_false, Int.not_lt, Int.not_le, beq_iff_eq, beq_eq_false_iff_ne, ne_eq] at cc)
              refine go_seq ?_
              refine go_region ?_
              refine go_pure0 Tk rfl rfl rfl ?_
              refine go_call (cacheClear a R L) rfl rfl (by rfl) rfl (by repeat constructor) (by repeat constructor) (fun h => nomatch h) ?_
              rintro _ _ _ ⟨rfl, rfl, rfl⟩
              refine go_nil ?_
              refine go_env [(1, _), (5, _), (7, _), (8, _), (9, _)] ⟨rfl, rfl, rfl, rfl, rfl, trivial⟩ ?_
              refine go_rch (b := rb) (by repeat constructor) (fun A1 c1 => ?_)
              refine go_region ?_
              refine go_pure0 Tk rfl rfl rfl ?_
              refine go_pure0 Tk rfl rfl rfl ?_
              refine go_pure0 Tk rfl rfl rfl ?_
              refine go_store Tk rfl rfl rfl rfl rfl rfl (by repeat constructor) rfl rfl (by rfl) (fun h => nomatch h) ?_
              refine go_nil ?_
              refine go_ent (sl tRe none 0 []) (fun _ _ => Sl_nil _ _) ?_
              refine go_foldp [sl tRe none 0 ([])] [pt rb 42 [.int .i64 R, .slice none ([]).length 0]] (rch rb R ([])) (by repeat constructor) (by repeat constructor) (fun _ _ hs q => rch_mk hs q) ?_
              refine go_back [] ⟨rfl, rfl, rfl, rfl, rfl, trivial⟩ (by repeat constructor) (by repeat constructor) ⟨by simp; omega, by simp, keysApart_nil, by simp⟩ (by decide)
            · intro cc
              (try simp only [decide_eq_true_eq, decide_eq_false_iff_not, Bool.not_eq_true', Bool.not_eq_false', Bool.not_eq_eq_eq_not, Bool.not_true, Bool.not_false, Int.not_lt, Int.not_le, beq_iff_eq, beq_eq_false_iff_ne, ne_eq] at cc)
              refine go_seq ?_
              refine go_region ?_
              refine go_pure0 Tk rfl rfl rfl ?_
              refine go_val0 rfl (load_val Tk rfl rfl rfl (by first | exact at_pt (by repeat constructor) (by rfl) | exact at_cl 0 (by repeat constructor) (by rfl) | exact at_cl 1 (by repeat constructor) (by rfl) | exact at_cl 2 (by repeat constructor) (by rfl) | exact at_cl 3 (by repeat constructor) (by rfl) | exact at_cl 4 (by repeat constructor) (by rfl) | exact at_cl 5 (by repeat constructor) (by rfl) | exact at_cl 6 (by repeat constructor) (by rfl) | exact at_cl 7 (by repeat constructor) (by rfl)) (by rfl)) rfl ?_
              refine go_pure0 Tk rfl rfl rfl ?_
              refine go_nil ?_
              refine go_env [(1, _), (5, _), (7, _), (8, _), (9, _), (71, _)] ⟨rfl, rfl, rfl, rfl, rfl, rfl, trivial⟩ ?_
              refine go_cond rfl ?_ ?_
              · intro ck
                (try simp only [decide_eq_true_eq, decide_eq_false_iff_not, Bool.not_eq_true', Bool.not_eq_false', Bool.not_eq_eq_eq_not, Bool.not_true, Bool.not_false, Int.not_lt, Int.not_le, beq_iff_eq, beq_eq_false_iff_ne, ne_eq] at ck)
                refine go_seq ?_
                refine go_cutO (X := Nat × Option Addr × Nat) (fun y => [(10, .pointer (some ⟨y.1, 0, none⟩))]) [(1, _), (5, _), (7, _), (8, _), (9, _)] (fun y => [ol tU 28 y.2.1 y.2.2 x.q.a, pt y.1 31 [.int .u32 x.q.p, .slice y.2.1 x.q.a.length y.2.2]]) ([]) (fun _ => True) ⟨rfl, rfl, rfl, rfl, rfl, trivial⟩ (by repeat constructor) ?_ ?_
                · skip
                  refine go_draw'  [2, 6] (pre [(1, 0), (1, 1), (1, 4), (1, 5), (2, 2), (2, 6)] (.two (pre [(0, 3)] (.two (pre [(0, 7), (1, 8), (0, 9), (0, 10)] .nil) (pre [(0, 9), (0, 7), (1, 8), (0, 10)] .nil))) (pre [(0, 9), (0, 3), (0, 7), (1, 8), (0, 10)] .nil))) mixed (by kernel_rfl) ?_
                  refine go_pure1 Tk rfl rfl rfl ?_
                  refine go_pure1 Tk rfl rfl rfl ?_
                  refine go_pure1 Tk rfl rfl rfl ?_
                  refine go_pure1 Tk rfl rfl rfl ?_
                  refine go_val2 rfl (load_val Tk rfl rfl rfl (by first | exact at_pt (by repeat constructor) (by rfl) | exact at_cl 0 (by repeat constructor) (by rfl) | exact at_cl 1 (by repeat constructor) (by rfl) | exact at_cl 2 (by repeat constructor) (by rfl) | exact at_cl 3 (by repeat constructor) (by rfl) | exact at_cl 4 (by repeat constructor) (by rfl) | exact at_cl 5 (by repeat constructor) (by rfl) | exact at_cl 6 (by repeat constructor) (by rfl) | exact at_cl 7 (by repeat constructor) (by rfl)) (by rfl)) (by repeat constructor) (by repeat constructor) rfl ?_
                  refine go_val2 rfl (load_val Tk rfl rfl rfl (by first | exact at_pt (by repeat constructor) (by rfl) | exact at_cl 0 (by repeat constructor) (by rfl) | exact at_cl 1 (by repeat constructor) (by rfl) | exact at_cl 2 (by repeat constructor) (by rfl) | exact at_cl 3 (by repeat constructor) (by rfl) | exact at_cl 4 (by repeat constructor) (by rfl) | exact at_cl 5 (by repeat constructor) (by rfl) | exact at_cl 6 (by repeat constructor) (by rfl) | exact at_cl 7 (by repeat constructor) (by rfl)) (by rfl)) (by repeat constructor) (by repeat constructor) rfl ?_
                  refine go_two ?_ ?_
                  · skip
                    refine go_bslice Tk rfl rfl rfl rfl rfl rfl rfl rfl (fun _ _ => satS (by repeat constructor) (by repeat constructor)) ?_
                    intro bo
                    refine go_lit_ol (b := bo) tU [] (by repeat constructor) (fun _ _ => rfl) (by simp) ?_
                    refine go_two ?_ ?_
                    · skip
                      refine go_appendN (T := tU) (xs := []) (ys := x.q.a) Tk rfl rfl rfl rfl rfl rfl rfl rfl rfl (by repeat constructor) rfl (by repeat constructor) (by simp; omega) (fun _ _ _ => satS (by repeat constructor) (by repeat constructor)) ?_
                      intro A2 c2
                      rw [List.nil_append]
                      refine go_val1 rfl (fun a w hp ho hf hs => build_val Tk rfl rfl rfl (by rfl) a w hf) rfl ?_
                      refine go_alloc Tk rfl rfl rfl (by rfl) rfl rfl (fun _ _ => satS (by repeat constructor) (by repeat constructor)) ?_
                      intro b2
                      refine go_store Tk rfl rfl rfl rfl rfl rfl (by repeat constructor) rfl rfl (by rfl) (fun h => nomatch h) ?_
                      refine go_nil ?_
                      refine go_back (_, _, _) ⟨rfl, rfl, rfl, rfl, rfl, rfl, trivial⟩ (by repeat constructor) (by repeat constructor) trivial (by decide)
                    refine go_alloc Tk rfl rfl rfl (by rfl) rfl rfl (fun _ _ => satS (by repeat constructor) (by repeat constructor)) ?_
                    intro b3
                    refine go_appendN (T := tU) (xs := []) (ys := x.q.a) Tk rfl rfl rfl rfl rfl rfl rfl rfl rfl (by repeat constructor) rfl (by repeat constructor) (by simp; omega) (fun _ _ _ => satS (by repeat constructor) (by repeat constructor)) ?_
                    intro A2 c2
                    rw [List.nil_append]
                    refine go_val1 rfl (fun a w hp ho hf hs => build_val Tk rfl rfl rfl (by rfl) a w hf) rfl ?_
                    refine go_store Tk rfl rfl rfl rfl rfl rfl (by repeat constructor) rfl rfl (by rfl) (fun h => nomatch h) ?_
                    refine go_nil ?_
                    refine go_back (_, _, _) ⟨rfl, rfl, rfl, rfl, rfl, rfl, trivial⟩ (by repeat constructor) (by repeat constructor) trivial (by decide)
                  refine go_alloc Tk rfl rfl rfl (by rfl) rfl rfl (fun _ _ => satS (by repeat constructor) (by repeat constructor)) ?_
                  intro b4
                  refine go_bslice Tk rfl rfl rfl rfl rfl rfl rfl rfl (fun _ _ => satS (by repeat constructor) (by repeat constructor)) ?_
                  intro bo
                  refine go_lit_ol (b := bo) tU [] (by repeat constructor) (fun _ _ => rfl) (by simp) ?_
                  refine go_appendN (T := tU) (xs := []) (ys := x.q.a) Tk rfl rfl rfl rfl rfl rfl rfl rfl rfl (by repeat constructor) rfl (by repeat constructor) (by simp; omega) (fun _ _ _ => satS (by repeat constructor) (by repeat constructor)) ?_
                  intro A2 c2
                  rw [List.nil_append]
                  refine go_val1 rfl (fun a w hp ho hf hs => build_val Tk rfl rfl rfl (by rfl) a w hf) rfl ?_
                  refine go_store Tk rfl rfl rfl rfl rfl rfl (by repeat constructor) rfl rfl (by rfl) (fun h => nomatch h) ?_
                  refine go_nil ?_
                  refine go_back (_, _, _) ⟨rfl, rfl, rfl, rfl, rfl, rfl, trivial⟩ (by repeat constructor) (by repeat constructor) trivial (by decide)
                intro ⟨bw, A2, c2⟩ _
                simp only
                refine go_seq ?_
                refine go_seq ?_
                refine go_region ?_
                refine go_pure0 Tk rfl rfl rfl ?_
                refine go_val0 rfl (load_val Tk rfl rfl rfl (by first | exact at_pt (by repeat constructor) (by rfl) | exact at_cl 0 (by repeat constructor) (by rfl) | exact at_cl 1 (by repeat constructor) (by rfl) | exact at_cl 2 (by repeat constructor) (by rfl) | exact at_cl 3 (by repeat constructor) (by rfl) | exact at_cl 4 (by repeat constructor) (by rfl) | exact at_cl 5 (by repeat constructor) (by rfl) | exact at_cl 6 (by repeat constructor) (by rfl) | exact at_cl 7 (by repeat constructor) (by rfl)) (by rfl)) rfl ?_
                refine go_pure0 Tk rfl rfl rfl ?_
                refine go_val0 rfl (load_val Tk rfl rfl rfl (by first | exact at_pt (by repeat constructor) (by rfl) | exact at_cl 0 (by repeat constructor) (by rfl) | exact at_cl 1 (by repeat constructor) (by rfl) | exact at_cl 2 (by repeat constructor) (by rfl) | exact at_cl 3 (by repeat constructor) (by rfl) | exact at_cl 4 (by repeat constructor) (by rfl) | exact at_cl 5 (by repeat constructor) (by rfl) | exact at_cl 6 (by repeat constructor) (by rfl) | exact at_cl 7 (by repeat constructor) (by rfl)) (by rfl)) rfl ?_
                refine go_call (cachePutLent 28 a R L x.q A2 c2 hL2 hq.1 (by omega) x.v (by omega)) rfl rfl (by rfl) rfl (by repeat constructor) (by repeat constructor) (fun h => nomatch h) ?_
                rintro _ _ _ ⟨rfl, rfl, rfl⟩
                refine go_pure0 Tk rfl rfl rfl ?_
                refine go_nil ?_
                refine go_env [(1, _), (5, _), (7, _), (8, _), (9, _), (10, _), (86, _)] ⟨rfl, rfl, rfl, rfl, rfl, rfl, rfl, trivial⟩ ?_
                refine go_cond_f rfl ?_
                refine go_skip ?_
                refine go_seq ?_
                refine go_seq ?_
                refine go_region ?_
                refine go_pure0 Tk rfl rfl rfl ?_
                refine go_nil ?_
                refine go_env [(1, _), (5, _), (7, _), (8, _), (9, _), (10, _), (11, _)] ⟨rfl, rfl, rfl, rfl, rfl, rfl, rfl, trivial⟩ ?_
                refine go_block ?_
                refine go_loop' (X := Nat × List Int) (fun x => [(11, .int .i64 (x.1 : Int))]) [(1, _), (5, _), (7, _), (8, _), (9, _), (10, _)] (fun y => [ol tU 28 A2 c2 y.2]) (fun y => y.1 ≤ x.q.a.length ∧ y.2.length = x.q.a.length) (fun y => x.q.a.length - y.1) ((0, x.q.a)) ⟨rfl, rfl, rfl, rfl, rfl, rfl, rfl, trivial⟩ (by repeat constructor) ⟨by simp, rfl⟩ ?_
                intro ⟨m, ys⟩ ⟨hm, hy⟩
                simp only at hm hy ⊢
                refine go_seq ?_
                refine go_seq ?_
                refine go_region ?_
                refine go_pure0 Tk rfl rfl rfl ?_
                refine go_pure0 Tk rfl rfl rfl ?_
                refine go_val0 rfl (load_val Tk rfl rfl rfl (by first | exact at_pt (by repeat constructor) (by rfl) | exact at_cl 0 (by repeat constructor) (by rfl) | exact at_cl 1 (by repeat constructor) (by rfl) | exact at_cl 2 (by repeat constructor) (by rfl) | exact at_cl 3 (by repeat constructor) (by rfl) | exact at_cl 4 (by repeat constructor) (by rfl) | exact at_cl 5 (by repeat constructor) (by rfl) | exact at_cl 6 (by repeat constructor) (by rfl) | exact at_cl 7 (by repeat constructor) (by rfl)) (by rfl)) rfl ?_
                refine go_pure0 Tk rfl rfl rfl ?_
                refine go_pure0 Tk rfl rfl rfl ?_
                refine go_nil ?_
                refine go_env [(1, _), (5, _), (7, _), (8, _), (9, _), (10, _), (11, _), (91, _)] ⟨rfl, rfl, rfl, rfl, rfl, rfl, rfl, rfl, trivial⟩ ?_
                refine go_condD rfl ?_ ?_
                · intro c2
                  refine go_skip ?_
                  refine go_seq ?_
                  refine go_block ?_
                  refine go_ol_addr (xs := ys) (by repeat constructor) (by omega) (fun b0 hA => ?_); cases hA
                  refine go_region ?_
                  refine go_pure0 Tk rfl rfl rfl ?_
                  refine go_val0 rfl (load_val Tk rfl rfl rfl (by first | exact at_pt (by repeat constructor) (by rfl) | exact at_cl 0 (by repeat constructor) (by rfl) | exact at_cl 1 (by repeat constructor) (by rfl) | exact at_cl 2 (by repeat constructor) (by rfl) | exact at_cl 3 (by repeat constructor) (by rfl) | exact at_cl 4 (by repeat constructor) (by rfl) | exact at_cl 5 (by repeat constructor) (by rfl) | exact at_cl 6 (by repeat constructor) (by rfl) | exact at_cl 7 (by repeat constructor) (by rfl)) (by rfl)) rfl ?_
                  refine go_pure0 Tk rfl rfl rfl ?_
                  refine go_val0 rfl (idx_val Tk rfl rfl rfl rfl rfl (by omega)) rfl ?_
                  refine go_val0 rfl (load_val Tk rfl rfl rfl (at_ol (T := tU) (j := m) (fun x => [.int .u32 x]) (fun _ _ _ h => h) 0 (xs := ys) (by repeat constructor) (List.getElem?_eq_getElem (by omega)) rfl) rfl) rfl ?_
                  refine go_pure0 Tk rfl rfl rfl ?_
                  refine go_val0 rfl (idx_val Tk rfl rfl rfl rfl rfl (by omega)) rfl ?_
                  refine go_store_el (T := tU) (j := m) Tk _ rfl rfl rfl rfl rfl rfl (by repeat constructor) (by omega) rfl rfl (fun _ _ => rfl) (fun h => nomatch h) ?_
                  refine go_nil ?_
                  refine go_env [(1, _), (5, _), (7, _), (8, _), (9, _), (10, _), (11, _)] ⟨rfl, rfl, rfl, rfl, rfl, rfl, rfl, trivial⟩ ?_
                  refine go_blk ?_
                  refine go_region ?_
                  refine go_pure0 Tk rfl rfl rfl ?_
                  refine go_pure0 Tk rfl rfl rfl ?_
                  refine go_pure0 Tk rfl rfl rfl ?_
                  refine go_nil ?_
                  refine go_i64 11 rfl (by omega) (by omega) ?_
                  refine go_back (m + 1, _) ⟨rfl, rfl, rfl, rfl, rfl, rfl, rfl, trivial⟩ (by repeat constructor) (by repeat constructor) ⟨by show m + 1 ≤ _; omega, by simpa using hy⟩ (by show x.q.a.length - (m + 1) < x.q.a.length - m; omega)
                · intro c2
                  refine go_exit rfl ?_
                  refine go_region ?_
                  refine go_pure0 Tk rfl rfl rfl ?_
                  refine go_pure0 Tk rfl rfl rfl ?_
                  refine go_val0 rfl (load_val Tk rfl rfl rfl (by first | exact at_pt (by repeat constructor) (by rfl) | exact at_cl 0 (by repeat constructor) (by rfl) | exact at_cl 1 (by repeat constructor) (by rfl) | exact at_cl 2 (by repeat constructor) (by rfl) | exact at_cl 3 (by repeat constructor) (by rfl) | exact at_cl 4 (by repeat constructor) (by rfl) | exact at_cl 5 (by repeat constructor) (by rfl) | exact at_cl 6 (by repeat constructor) (by rfl) | exact at_cl 7 (by repeat constructor) (by rfl)) (by rfl)) rfl ?_
                  refine go_pure0 Tk rfl rfl rfl ?_
                  refine go_val0 rfl (load_val Tk rfl rfl rfl (by first | exact at_pt (by repeat constructor) (by rfl) | exact at_cl 0 (by repeat constructor) (by rfl) | exact at_cl 1 (by repeat constructor) (by rfl) | exact at_cl 2 (by repeat constructor) (by rfl) | exact at_cl 3 (by repeat constructor) (by rfl) | exact at_cl 4 (by repeat constructor) (by rfl) | exact at_cl 5 (by repeat constructor) (by rfl) | exact at_cl 6 (by repeat constructor) (by rfl) | exact at_cl 7 (by repeat constructor) (by rfl)) (by rfl)) rfl ?_
                  refine go_call (refPut rb R L x.q QA qc x.v (by omega) (by omega)) rfl rfl (by rfl) rfl (by repeat constructor) (by repeat constructor) (fun h => nomatch h) ?_
                  rintro _ _ _ ⟨rfl, rfl, rfl⟩
                  refine go_nil ?_
                  refine go_back (cput R L x.q x.v) ⟨rfl, rfl, rfl, rfl, rfl, trivial⟩ (by repeat constructor) (by repeat constructor) ⟨cput_len (by omega) hL1, cput_ok hL2 hq.1, cput_apart hL3, cput_every (φ := fun q => q.a.length ≤ 30) hL4 hlen⟩ (by decide)
              · intro ck
                (try simp only [decide_eq_true_eq, decide_eq_false_iff_not, Bool.not_eq_true', Bool.not_eq_false', Bool.not_eq_eq_eq_not, Bool.not_true, Bool.not_false, Int.not_lt, Int.not_le, beq_iff_eq, beq_eq_false_iff_ne, ne_eq] at ck)
                refine go_skip ?_
                refine go_back L ⟨rfl, rfl, rfl, rfl, rfl, trivial⟩ (by repeat constructor) (by repeat constructor) ⟨hL1, hL2, hL3, hL4⟩ (by decide)
          intro L' ⟨hM1, hM2, hM3, hM4⟩
          refine go_seq ?_
          refine go_region ?_
          refine go_pure0 Tk rfl rfl rfl ?_
          refine go_pure0 Tk rfl rfl rfl ?_
          refine go_val0 rfl (load_val Tk rfl rfl rfl (by first | exact at_pt (by repeat constructor) (by rfl) | exact at_cl 0 (by repeat constructor) (by rfl) | exact at_cl 1 (by repeat constructor) (by rfl) | exact at_cl 2 (by repeat constructor) (by rfl) | exact at_cl 3 (by repeat constructor) (by rfl) | exact at_cl 4 (by repeat constructor) (by rfl) | exact at_cl 5 (by repeat constructor) (by rfl) | exact at_cl 6 (by repeat constructor) (by rfl) | exact at_cl 7 (by repeat constructor) (by rfl)) (by rfl)) rfl ?_
          refine go_call (cacheGet a R L' x.q QA qc hM2 hq.1 (by omega)) rfl rfl (by rfl) rfl (by repeat constructor) (by repeat constructor) (fun h => nomatch h) ?_
          rintro _ _ _ ⟨rfl, rfl, rfl⟩
          refine go_pure0 Tk rfl rfl rfl ?_
          refine go_pure0 Tk rfl rfl rfl ?_
          refine go_pure0 Tk rfl rfl rfl ?_
          refine go_pure0 Tk rfl rfl rfl ?_
          refine go_pure0 Tk rfl rfl rfl ?_
          refine go_nil ?_
          refine go_env [(1, _), (5, _), (7, _), (8, _), (9, _), (12, _), (13, _)] ⟨rfl, rfl, rfl, rfl, rfl, rfl, rfl, trivial⟩ ?_
          refine go_seq ?_
          refine go_region ?_
          refine go_pure0 Tk rfl rfl rfl ?_
          refine go_pure0 Tk rfl rfl rfl ?_
          refine go_val0 rfl (load_val Tk rfl rfl rfl (by first | exact at_pt (by repeat constructor) (by rfl) | exact at_cl 0 (by repeat constructor) (by rfl) | exact at_cl 1 (by repeat constructor) (by rfl) | exact at_cl 2 (by repeat constructor) (by rfl) | exact at_cl 3 (by repeat constructor) (by rfl) | exact at_cl 4 (by repeat constructor) (by rfl) | exact at_cl 5 (by repeat constructor) (by rfl) | exact at_cl 6 (by repeat constructor) (by rfl) | exact at_cl 7 (by repeat constructor) (by rfl)) (by rfl)) rfl ?_
          refine go_call (refGet rb R L' x.q QA qc) rfl rfl (by rfl) rfl (by repeat constructor) (by repeat constructor) (fun h => nomatch h) ?_
          rintro _ _ _ ⟨rfl, rfl, rfl⟩
          refine go_pure0 Tk rfl rfl rfl ?_
          refine go_pure0 Tk rfl rfl rfl ?_
          refine go_pure0 Tk rfl rfl rfl ?_
          refine go_pure0 Tk rfl rfl rfl ?_
          refine go_pure0 Tk rfl rfl rfl ?_
          refine go_nil ?_
          refine go_env [(1, _), (5, _), (7, _), (8, _), (12, _), (13, _), (14, _), (15, _)] ⟨rfl, rfl, rfl, rfl, rfl, rfl, rfl, rfl, trivial⟩ ?_
          refine go_seq ?_
          refine go_rch (b := rb) (by repeat constructor) (fun A1 c1 => ?_)
          refine go_draw'  [14] (pre [(1, 0), (1, 1), (1, 2), (1, 3), (1, 4), (1, 5), (1, 6), (1, 7), (1, 8), (1, 9), (1, 11), (1, 12), (1, 13), (2, 14), (1, 15), (0, 10), (1, 16), (1, 17)] .nil) mixed (by kernel_rfl) ?_
          refine go_pure1 Tk rfl rfl rfl ?_
          refine go_pure1 Tk rfl rfl rfl ?_
          refine go_pure1 Tk rfl rfl rfl ?_
          refine go_re 123 (.bool false) (by show some (Value.bool _) = _; simp) ?_
          refine go_pure1 Tk rfl rfl rfl ?_
          refine go_pure1 Tk rfl rfl rfl ?_
          refine go_pure1 Tk rfl rfl rfl ?_
          refine go_pure1 Tk rfl rfl rfl ?_
          refine go_re 127 (.bool false) (by show some (Value.bool _) = _; simp) ?_
          refine go_pure1 Tk rfl rfl rfl ?_
          refine go_pure1 Tk rfl rfl rfl ?_
          refine go_pure1 Tk rfl rfl rfl ?_
          refine go_pure1 Tk rfl rfl rfl ?_
          refine go_pure1 Tk rfl rfl rfl ?_
          refine go_pure1 Tk rfl rfl rfl ?_
          refine go_val2 rfl (load_val Tk rfl rfl rfl (by first | exact at_pt (by repeat constructor) (by rfl) | exact at_cl 0 (by repeat constructor) (by rfl) | exact at_cl 1 (by repeat constructor) (by rfl) | exact at_cl 2 (by repeat constructor) (by rfl) | exact at_cl 3 (by repeat constructor) (by rfl) | exact at_cl 4 (by repeat constructor) (by rfl) | exact at_cl 5 (by repeat constructor) (by rfl) | exact at_cl 6 (by repeat constructor) (by rfl) | exact at_cl 7 (by repeat constructor) (by rfl)) (by rfl)) (by repeat constructor) (by repeat constructor) rfl ?_
          refine go_pure1 Tk rfl rfl rfl ?_
          refine go_call (cacheLen a R L') rfl rfl (by rfl) rfl (by repeat constructor) (by repeat constructor) (fun _ v Ps' Os' hq => by obtain ⟨rfl, rfl, rfl⟩ := hq; exact satS (by repeat constructor) (by repeat constructor)) ?_
          rintro _ _ _ ⟨rfl, rfl, rfl⟩
          refine go_pure1 Tk rfl rfl rfl ?_
          refine go_re 137 (.bool false) (by show some (Value.bool _) = _; simp) ?_
          refine go_pure1 Tk rfl rfl rfl ?_
          refine go_nil ?_
          refine go_foldp [sl tRe A1 c1 (L')] [pt rb 42 [.int .i64 R, .slice A1 (L').length c1]] (rch rb R (L')) (by repeat constructor) (by repeat constructor) (fun _ _ hs q => rch_mk hs q) ?_
          refine go_env [(1, _), (5, _), (7, _), (8, _), (125, _), (126, _), (127, _), (130, _), (131, _), (132, _), (133, _), (134, _), (135, _), (136, _), (137, _), (138, _)] ⟨rfl, rfl, rfl, rfl, rfl, rfl, rfl, rfl, rfl, rfl, rfl, rfl, rfl, rfl, rfl, rfl, trivial⟩ ?_
          refine go_cond_f rfl ?_
          refine go_skip ?_
          refine go_blk ?_
          refine go_region ?_
          refine go_pure0 Tk rfl rfl rfl ?_
          refine go_pure0 Tk rfl rfl rfl ?_
          refine go_pure0 Tk rfl rfl rfl ?_
          refine go_nil ?_
          refine go_i64 8 rfl (by omega) (by omega) ?_
          refine go_back (k + 1, L') ⟨rfl, rfl, rfl, rfl, trivial⟩ (by repeat constructor) (by repeat constructor) ⟨by show k + 1 ≤ _; omega, hM1, hM2, hM3, hM4⟩ (by show l.length - (k + 1) < l.length - k; omega)
        · intro c1
          refine go_exit rfl ?_
          refine go_seq ?_
          refine go_seq ?_
          refine go_rch (b := rb) (by repeat constructor) (fun A1 c1 => ?_)
          refine go_len (xs := L) (by repeat constructor) (fun l12 m12 => ?_)
          refine go_region ?_
          refine go_pure0 Tk rfl rfl rfl ?_
          refine go_nil ?_
          refine go_env [(5, _), (7, _), (16, _)] ⟨rfl, rfl, rfl, trivial⟩ ?_
          refine go_block ?_
          refine go_loop' (X := Nat) (fun k => [(16, .int .i64 (k : Int))]) [(5, _), (7, _)] (fun _ => []) (fun k => k ≤ L.length) (fun k => L.length - k) (0) ⟨rfl, rfl, rfl, trivial⟩ (by repeat constructor) (by omega) ?_
          intro m hm
          refine go_seq ?_
          refine go_seq ?_
          refine go_region ?_
          refine go_pure0 Tk rfl rfl rfl ?_
          refine go_pure0 Tk rfl rfl rfl ?_
          refine go_pure0 Tk rfl rfl rfl ?_
          refine go_pure0 Tk rfl rfl rfl ?_
          refine go_val0 rfl (load_val Tk rfl rfl rfl (by first | exact at_pt (by repeat constructor) (by rfl) | exact at_cl 0 (by repeat constructor) (by rfl) | exact at_cl 1 (by repeat constructor) (by rfl) | exact at_cl 2 (by repeat constructor) (by rfl) | exact at_cl 3 (by repeat constructor) (by rfl) | exact at_cl 4 (by repeat constructor) (by rfl) | exact at_cl 5 (by repeat constructor) (by rfl) | exact at_cl 6 (by repeat constructor) (by rfl) | exact at_cl 7 (by repeat constructor) (by rfl)) (by rfl)) rfl ?_
          refine go_pure0 Tk rfl rfl rfl ?_
          refine go_pure0 Tk rfl rfl rfl ?_
          refine go_nil ?_
          refine go_env [(5, _), (7, _), (16, _), (145, _)] ⟨rfl, rfl, rfl, rfl, trivial⟩ ?_
          refine go_condD rfl ?_ ?_
          · intro c3
            refine go_skip ?_
            refine go_seq ?_
            refine go_block ?_
            refine go_seq ?_
            refine go_elem_re (xs := L) (by repeat constructor) m (List.getElem?_eq_getElem (by omega)) (fun b4 o4 QA qc hA => ?_); cases hA
            refine go_len (xs := L[m].1.a) (by repeat constructor) (fun l13 m13 => ?_)
            refine go_region ?_
            refine go_pure0 Tk rfl rfl rfl ?_
            refine go_pure0 Tk rfl rfl rfl ?_
            refine go_pure0 Tk rfl rfl rfl ?_
            refine go_pure0 Tk rfl rfl rfl ?_
            refine go_val0 rfl (load_val Tk rfl rfl rfl (by first | exact at_pt (by repeat constructor) (by rfl) | exact at_cl 0 (by repeat constructor) (by rfl) | exact at_cl 1 (by repeat constructor) (by rfl) | exact at_cl 2 (by repeat constructor) (by rfl) | exact at_cl 3 (by repeat constructor) (by rfl) | exact at_cl 4 (by repeat constructor) (by rfl) | exact at_cl 5 (by repeat constructor) (by rfl) | exact at_cl 6 (by repeat constructor) (by rfl) | exact at_cl 7 (by repeat constructor) (by rfl)) (by rfl)) rfl ?_
            refine go_pure0 Tk rfl rfl rfl ?_
            refine go_val0 rfl (idx_val Tk rfl rfl rfl rfl rfl (by omega)) rfl ?_
            refine go_pure0 Tk rfl rfl rfl ?_
            refine go_val0 rfl (load_val Tk rfl rfl rfl (by first | exact at_pt (by repeat constructor) (by rfl) | exact at_cl 0 (by repeat constructor) (by rfl) | exact at_cl 1 (by repeat constructor) (by rfl) | exact at_cl 2 (by repeat constructor) (by rfl) | exact at_cl 3 (by repeat constructor) (by rfl) | exact at_cl 4 (by repeat constructor) (by rfl) | exact at_cl 5 (by repeat constructor) (by rfl) | exact at_cl 6 (by repeat constructor) (by rfl) | exact at_cl 7 (by repeat constructor) (by rfl)) (by rfl)) rfl ?_
            refine go_call (cacheGet a R L L[m].1 QA qc hL2 (hL2 _ (List.getElem_mem _)) (by have := hL4 _ (List.getElem_mem (show m < L.length by omega)); omega)) rfl rfl (by rfl) rfl (by repeat constructor) (by repeat constructor) (fun h => nomatch h) ?_
            rintro _ _ _ ⟨rfl, rfl, rfl⟩
            refine go_pure0 Tk rfl rfl rfl ?_
            refine go_pure0 Tk rfl rfl rfl ?_
            refine go_pure0 Tk rfl rfl rfl ?_
            refine go_pure0 Tk rfl rfl rfl ?_
            refine go_pure0 Tk rfl rfl rfl ?_
            refine go_nil ?_
            refine go_env [(5, _), (7, _), (16, _), (17, _), (18, _)] ⟨rfl, rfl, rfl, rfl, rfl, trivial⟩ ?_
            refine go_seq ?_
            refine go_region ?_
            refine go_pure0 Tk rfl rfl rfl ?_
            refine go_pure0 Tk rfl rfl rfl ?_
            refine go_re 162 (.bool false) (by show some (Value.bool _) = _; rw [cget_self hL3 _ (List.getElem_mem _)]; simp) ?_
            refine go_pure0 Tk rfl rfl rfl ?_
            refine go_pure0 Tk rfl rfl rfl ?_
            refine go_pure0 Tk rfl rfl rfl ?_
            refine go_pure0 Tk rfl rfl rfl ?_
            refine go_pure0 Tk rfl rfl rfl ?_
            refine go_val0 rfl (load_val Tk rfl rfl rfl (by first | exact at_pt (by repeat constructor) (by rfl) | exact at_cl 0 (by repeat constructor) (by rfl) | exact at_cl 1 (by repeat constructor) (by rfl) | exact at_cl 2 (by repeat constructor) (by rfl) | exact at_cl 3 (by repeat constructor) (by rfl) | exact at_cl 4 (by repeat constructor) (by rfl) | exact at_cl 5 (by repeat constructor) (by rfl) | exact at_cl 6 (by repeat constructor) (by rfl) | exact at_cl 7 (by repeat constructor) (by rfl)) (by rfl)) rfl ?_
            refine go_pure0 Tk rfl rfl rfl ?_
            refine go_val0 rfl (idx_val Tk rfl rfl rfl rfl rfl (by omega)) rfl ?_
            refine go_pure0 Tk rfl rfl rfl ?_
            refine go_val0 rfl (load_val Tk rfl rfl rfl (by first | exact at_pt (by repeat constructor) (by rfl) | exact at_cl 0 (by repeat constructor) (by rfl) | exact at_cl 1 (by repeat constructor) (by rfl) | exact at_cl 2 (by repeat constructor) (by rfl) | exact at_cl 3 (by repeat constructor) (by rfl) | exact at_cl 4 (by repeat constructor) (by rfl) | exact at_cl 5 (by repeat constructor) (by rfl) | exact at_cl 6 (by repeat constructor) (by rfl) | exact at_cl 7 (by repeat constructor) (by rfl)) (by rfl)) rfl ?_
            refine go_pure0 Tk rfl rfl rfl ?_
            refine go_re 173 (.bool false) (by show some (Value.bool _) = _; rw [cget_self hL3 _ (List.getElem_mem _)]; simp) ?_
            refine go_pure0 Tk rfl rfl rfl ?_
            refine go_nil ?_
            refine go_env [(5, _), (7, _), (16, _), (164, _), (165, _), (166, _), (167, _), (168, _), (169, _), (170, _), (171, _), (172, _), (173, _), (174, _)] ⟨rfl, rfl, rfl, rfl, rfl, rfl, rfl, rfl, rfl, rfl, rfl, rfl, rfl, rfl, trivial⟩ ?_
            refine go_cond_f rfl ?_
            refine go_skip ?_
            refine go_blk ?_
            refine go_region ?_
            refine go_pure0 Tk rfl rfl rfl ?_
            refine go_pure0 Tk rfl rfl rfl ?_
            refine go_pure0 Tk rfl rfl rfl ?_
            refine go_nil ?_
            refine go_i64 16 rfl (by omega) (by omega) ?_
            refine go_back (m + 1) ⟨rfl, rfl, rfl, trivial⟩ (by repeat constructor) (by repeat constructor) (by omega) (by omega)
          · intro c3
            refine go_exit rfl ?_
            refine go_seq ?_
            refine go_region ?_
            refine go_call (cacheWorks) rfl rfl (by rfl) rfl (by repeat constructor) (by repeat constructor) (fun h => nomatch h) ?_
            rintro _ _ _ ⟨rfl, rfl, rfl⟩
            refine go_pure0 Tk rfl rfl rfl ?_
            refine go_nil ?_
            refine go_env [(4, _)] ⟨rfl, trivial⟩ ?_
            refine go_ret _ _ (fun a w hp ho hf hs => res1 (by rfl) (.tmp rfl) a w hp ho hf hs) ⟨rfl, rfl, rfl⟩ (by repeat constructor) (by repeat constructor)

end Go.Proofs.Ytdkfpgdfjnaciaa.SL
