/- Contracts of functions of the program (Cachec): what each call comes to, for the laws' proofs. -/
import Derived.Test.YtdkfpgdfjnaciaaCacheb
set_option linter.unusedVariables false
set_option linter.unusedSimpArgs false
namespace Go.Proofs.Ytdkfpgdfjnaciaa.SL
open Go 

set_option maxHeartbeats 2000000 in
set_option maxRecDepth 20000 in
theorem cacheNew (r : Int) :
    Spec Try.prog 18 #[.int .i64 r] [] [] (fun v Ps' Os' => (1 ≤ r ∧ r ≤ 64 ∧ ∃ b, v = .tuple #[.pointer (some ⟨b, 0, none⟩), .int .i64 0] ∧ Ps' = [] ∧ Os' = [cch b r []]) ∨ ((r < 1 ∨ 64 < r) ∧ v = .tuple #[.pointer none, .int .i64 1] ∧ Ps' = [] ∧ Os' = [])) := by
  refine spec_of (fn := Try.f18) (args := [.int .i64 r]) 13 Try.func18 rfl (by kernel_rfl) Try.ntmps18 (Nat.le_of_ble_eq_true rfl) (fun w0 hp0 hf0 => ?_)
  refine go_seq ?_
  refine go_region ?_
  refine go_pure0 Tk rfl rfl rfl ?_
  refine go_pure0 Tk rfl rfl rfl ?_
  refine go_nil ?_
  refine go_env [(0, _)] ⟨rfl, trivial⟩ ?_
  refine go_seq ?_
  refine go_seq ?_
  refine go_region ?_
  refine go_pure0 Tk rfl rfl rfl ?_
  refine go_pure0 Tk rfl rfl rfl ?_
  refine go_pure0 Tk rfl rfl rfl ?_
  refine go_known 6 rfl ?_ ?_
  · intro g1
    (try simp only [decide_eq_true_eq, decide_eq_false_iff_not, Bool.not_eq_true', Bool.not_eq_false', Bool.not_eq_eq_eq_not, Bool.not_true, Bool.not_false, Int.not_lt, Int.not_le, beq_iff_eq, beq_eq_false_iff_ne, ne_eq] at g1)
    refine go_skip0 rfl rfl ?_
    refine go_skip0 rfl rfl ?_
    refine go_pure0 Tk rfl rfl rfl ?_
    refine go_nil ?_
    refine go_env [(0, _), (9, _)] ⟨rfl, rfl, trivial⟩ ?_
    refine go_cond_t rfl ?_
    refine go_seq ?_
    refine go_region ?_
    refine go_pure0 Tk rfl rfl rfl ?_
    refine go_pure0 Tk rfl rfl rfl ?_
    refine go_nil ?_
    refine go_env [(2, _), (3, _)] ⟨rfl, rfl, trivial⟩ ?_
    refine go_ret _ _ (fun a w hp ho hf hs => res2 (by rfl) (.tmp rfl) (.tmp rfl) a w hp ho hf hs) (Or.inr ⟨Or.inl g1, rfl, rfl, rfl⟩) (by repeat constructor) (by repeat constructor)
  · intro g1
    (try simp only [decide_eq_true_eq, decide_eq_false_iff_not, Bool.not_eq_true', Bool.not_eq_false', Bool.not_eq_eq_eq_not, Bool.not_true, Bool.not_false, Int.not_lt, Int.not_le, beq_iff_eq, beq_eq_false_iff_ne, ne_eq] at g1)
    refine go_pure0 Tk rfl rfl rfl ?_
    refine go_pure0 Tk rfl rfl rfl ?_
    refine go_pure0 Tk rfl rfl rfl ?_
    refine go_nil ?_
    refine go_env [(0, _), (9, _)] ⟨rfl, rfl, trivial⟩ ?_
    refine go_cond rfl ?_ ?_
    · intro c1
      (try simp only [decide_eq_true_eq, decide_eq_false_iff_not, Bool.not_eq_true', Bool.not_eq_false', Bool.not_eq_eq_eq_not, Bool.not_true, Bool.not_false, Int.not_lt, Int.not_le, beq_iff_eq, beq_eq_false_iff_ne, ne_eq] at c1)
      refine go_seq ?_
      refine go_region ?_
      refine go_pure0 Tk rfl rfl rfl ?_
      refine go_pure0 Tk rfl rfl rfl ?_
      refine go_nil ?_
      refine go_env [(2, _), (3, _)] ⟨rfl, rfl, trivial⟩ ?_
      refine go_ret _ _ (fun a w hp ho hf hs => res2 (by rfl) (.tmp rfl) (.tmp rfl) a w hp ho hf hs) (Or.inr ⟨Or.inr c1, rfl, rfl, rfl⟩) (by repeat constructor) (by repeat constructor)
    · intro c1
      (try simp only [decide_eq_true_eq, decide_eq_false_iff_not, Bool.not_eq_true', Bool.not_eq_false', Bool.not_eq_eq_eq_not, Bool.not_true, Bool.not_false, Int.not_lt, Int.not_le, beq_iff_eq, beq_eq_false_iff_ne, ne_eq] at c1)
      refine go_skip ?_
      refine go_seq ?_
      refine go_region ?_
      refine go_pure0 Tk rfl rfl rfl ?_
      refine go_val0 rfl (fun a w hp ho hf hs => build_val Tk rfl rfl rfl (by rfl) a w hf) rfl ?_
      refine go_box Tk rfl rfl rfl rfl (by rfl) rfl rfl (fun h => nomatch h) ?_
      intro b
      refine go_own_nil tEn 101 none ?_
      refine go_fold [pt b 94 [.int .i64 r, .slice none ([]).length 0], ol tEn 101 none 0 ([])] (cch b r ([])) (by repeat constructor) (fun _ _ q => cch_mk q) ?_
      refine go_pure0 Tk rfl rfl rfl ?_
      refine go_pure0 Tk rfl rfl rfl ?_
      refine go_nil ?_
      refine go_env [(2, _), (3, _)] ⟨rfl, rfl, trivial⟩ ?_
      refine go_ret _ _ (fun a w hp ho hf hs => res2 (by rfl) (.tmp rfl) (.tmp rfl) a w hp ho hf hs) (Or.inl ⟨by omega, by omega, b, rfl, rfl, rfl⟩) (by repeat constructor) (by repeat constructor)

theorem cacheNewOk (r : Int) (h : 1 ≤ r ∧ r ≤ 64) : Spec Try.prog 18 #[.int .i64 r] [] [] (fun v Ps' Os' => ∃ b, v = .tuple #[.pointer (some ⟨b, 0, none⟩), .int .i64 0] ∧ Ps' = [] ∧ Os' = [cch b r []]) :=
  (cacheNew r).imp fun v P O q => by
    rcases q with ⟨_, _, q⟩ | ⟨q, _⟩
    · exact q
    · omega
theorem cacheNewBad (r : Int) (h : r < 1 ∨ 64 < r) : Spec Try.prog 18 #[.int .i64 r] [] [] (fun v Ps' Os' => v = .tuple #[.pointer none, .int .i64 1] ∧ Ps' = [] ∧ Os' = []) :=
  (cacheNew r).imp fun v P O q => by
    rcases q with ⟨_, _, q⟩ | ⟨_, q⟩
    · omega
    · exact q

set_option maxHeartbeats 2000000 in
set_option maxRecDepth 20000 in
theorem cacheGet (b : Nat) (R : Int) (l : List En) (q : Fa) (QA : Option Addr) (qc : Nat) (hl : ∀ x ∈ l, x.1.ok) (hq : q.ok) (hn : q.a.length ≤ 1000) :
    Spec Try.prog 20 #[.pointer (some ⟨b, 0, none⟩), .agg #[.int .u32 q.p, .slice QA q.a.length qc]] [sl tU QA qc q.a] [cch b R l] (fun v Ps' Os' => v = .tuple #[.int .u8 (cget l q).1, .bool (cget l q).2] ∧ Ps' = [] ∧ Os' = [cch b R l]) := by
  refine spec_of (fn := Try.f20) (args := [.pointer (some ⟨b, 0, none⟩), .agg #[.int .u32 q.p, .slice QA q.a.length qc]]) 26 Try.func20 rfl (by kernel_rfl) Try.ntmps20 (Nat.le_of_ble_eq_true rfl) (fun w0 hp0 hf0 => ?_)
  refine go_seq ?_
  refine go_region ?_
  refine go_box Tk rfl rfl rfl rfl (by rfl) rfl rfl (fun h => nomatch h) ?_
  intro b1
  refine go_pure0 Tk rfl rfl rfl ?_
  refine go_pure0 Tk rfl rfl rfl ?_
  refine go_nil ?_
  refine go_env [(0, _), (3, _)] ⟨rfl, rfl, trivial⟩ ?_
  refine go_seq ?_
  refine go_seq ?_
  refine go_region ?_
  refine go_pure0 Tk rfl rfl rfl ?_
  refine go_pure0 Tk rfl rfl rfl ?_
  refine go_nil ?_
  refine go_env [(0, _), (3, _), (8, _)] ⟨rfl, rfl, rfl, trivial⟩ ?_
  refine go_cond_f rfl ?_
  refine go_skip ?_
  refine go_seq ?_
  refine go_cch (by repeat constructor) (fun A1 c1 => ?_)
  refine go_draw'  [3] (pre [(1, 0), (1, 1), (1, 2), (2, 3), (0, 4), (0, 5), (1, 6)] .nil) mixed (by kernel_rfl) ?_
  refine go_pure1 Tk rfl rfl rfl ?_
  refine go_pure1 Tk rfl rfl rfl ?_
  refine go_pure1 Tk rfl rfl rfl ?_
  refine go_val2 rfl (load_val Tk rfl rfl rfl (by first | exact at_pt (by repeat constructor) (by rfl) | exact at_cl 0 (by repeat constructor) (by rfl) | exact at_cl 1 (by repeat constructor) (by rfl) | exact at_cl 2 (by repeat constructor) (by rfl) | exact at_cl 3 (by repeat constructor) (by rfl) | exact at_cl 4 (by repeat constructor) (by rfl) | exact at_cl 5 (by repeat constructor) (by rfl) | exact at_cl 6 (by repeat constructor) (by rfl) | exact at_cl 7 (by repeat constructor) (by rfl)) (by rfl)) (by repeat constructor) (by repeat constructor) rfl ?_
  refine go_call (cacheOf q.p QA qc q.a hn) rfl rfl (by rfl) rfl (by repeat constructor) (by repeat constructor) (fun h => nomatch h) ?_
  rintro _ _ _ ⟨rfl, rfl, rfl⟩
  refine go_call (place b R A1 c1 l q hl hq) rfl rfl (by rfl) rfl (by repeat constructor) (by repeat constructor) (fun h => nomatch h) ?_
  rintro _ _ _ ⟨rfl, rfl, rfl⟩
  refine go_pure1 Tk rfl rfl rfl ?_
  refine go_nil ?_
  refine go_env [(0, _), (6, _)] ⟨rfl, rfl, trivial⟩ ?_
  refine go_seq ?_
  refine go_seq ?_
  refine go_region ?_
  refine go_pure0 Tk rfl rfl rfl ?_
  refine go_pure0 Tk rfl rfl rfl ?_
  refine go_nil ?_
  refine go_env [(0, _), (6, _), (16, _)] ⟨rfl, rfl, rfl, trivial⟩ ?_
  refine go_condD rfl ?_ ?_
  · intro g1
    obtain ⟨h1, h2⟩ | ⟨k, hk, h1, h2, h3⟩ := plc_cases q l
    rotate_left
    · omega
    refine go_fold [pt b 94 [.int .i64 R, .slice A1 (l).length c1], ol tEn 101 A1 c1 (l)] (cch b R (l)) (by repeat constructor) (fun _ _ q => cch_mk q) ?_
    refine go_seq ?_
    refine go_region ?_
    refine go_pure0 Tk rfl rfl rfl ?_
    refine go_pure0 Tk rfl rfl rfl ?_
    refine go_nil ?_
    refine go_env [(4, _), (5, _)] ⟨rfl, rfl, trivial⟩ ?_
    refine go_ret _ _ (fun a w hp ho hf hs => res2 (by rfl) (.tmp rfl) (.tmp rfl) a w hp ho hf hs) ⟨by rw [cget_none h2], rfl, rfl⟩ (by repeat constructor) (by repeat constructor)
  · intro g1
    obtain ⟨h1, -⟩ | ⟨k, hk, h1, -, hf⟩ := plc_cases q l
    · omega
    rw [h1]
    refine go_skip ?_
    refine go_seq ?_
    refine go_ol_open (xs := l) (by repeat constructor) (by omega) (fun b0 cs cur hA h1 h2 h3 h4 h5 => ?_); cases hA
    refine go_rps_at (by repeat constructor) k (List.getElem?_eq_getElem (by omega)) (fun ds d1 d2 => ?_)
    refine go_rp (ds = _) (by repeat constructor) (fun _ h => h) (fun hd => ?_); subst hd
    refine go_region ?_
    refine go_pure0 Tk rfl rfl rfl ?_
    refine go_pure0 Tk rfl rfl rfl ?_
    refine go_pure0 Tk rfl rfl rfl ?_
    refine go_pure0 Tk rfl rfl rfl ?_
    refine go_val0 rfl (load_val Tk rfl rfl rfl (by first | exact at_pt (by repeat constructor) (by rfl) | exact at_cl 0 (by repeat constructor) (by rfl) | exact at_cl 1 (by repeat constructor) (by rfl) | exact at_cl 2 (by repeat constructor) (by rfl) | exact at_cl 3 (by repeat constructor) (by rfl) | exact at_cl 4 (by repeat constructor) (by rfl) | exact at_cl 5 (by repeat constructor) (by rfl) | exact at_cl 6 (by repeat constructor) (by rfl) | exact at_cl 7 (by repeat constructor) (by rfl)) (by rfl)) rfl ?_
    refine go_pure0 Tk rfl rfl rfl ?_
    refine go_val0 rfl (idx_val Tk rfl rfl rfl rfl rfl (by omega)) rfl ?_
    refine go_pure0 Tk rfl rfl rfl ?_
    refine go_val0 rfl (load_val Tk rfl rfl rfl (at_row 2 (by repeat constructor) h2 d2 rfl) rfl) rfl ?_
    refine go_pure0 Tk rfl rfl rfl ?_
    refine go_pure0 Tk rfl rfl rfl ?_
    refine go_nil ?_
    refine go_ol_close l (by repeat constructor) (by repeat constructor) h1 h2 h3 h4 ?_
    refine go_fold [pt b 94 [.int .i64 R, .slice _ (l).length c1], ol tEn 101 _ c1 (l)] (cch b R (l)) (by repeat constructor) (fun _ _ q => cch_mk q) ?_
    refine go_env [(4, _), (5, _)] ⟨rfl, rfl, trivial⟩ ?_
    refine go_ret _ _ (fun a w hp ho hf hs => res2 (by rfl) (.tmp rfl) (.tmp rfl) a w hp ho hf hs) ⟨by rw [cget_hit hf], rfl, rfl⟩ (by repeat constructor) (by repeat constructor)

set_option maxHeartbeats 2000000 in
set_option maxRecDepth 20000 in
theorem cachePut (b : Nat) (R : Int) (l : List En) (q : Fa) (QA : Option Addr) (qc : Nat) (hl : ∀ x ∈ l, x.1.ok) (hq : q.ok) (hn : q.a.length ≤ 1000) (v : Int) (hm : l.length ≤ 100000) :
    Spec Try.prog 19 #[.pointer (some ⟨b, 0, none⟩), .agg #[.int .u32 q.p, .slice QA q.a.length qc], .int .u8 v] [sl tU QA qc q.a] [cch b R l] (fun w Ps' Os' => w = .int .i64 0 ∧ Ps' = [] ∧ Os' = [cch b R (cput R l q v)]) := by
  refine spec_of (fn := Try.f19) (args := [.pointer (some ⟨b, 0, none⟩), .agg #[.int .u32 q.p, .slice QA q.a.length qc], .int .u8 v]) 20 Try.func19 rfl (by kernel_rfl) Try.ntmps19 (Nat.le_of_ble_eq_true rfl) (fun w0 hp0 hf0 => ?_)
  refine go_seq ?_
  refine go_region ?_
  refine go_box Tk rfl rfl rfl rfl (by rfl) rfl rfl (fun h => nomatch h) ?_
  intro b1
  refine go_pure0 Tk rfl rfl rfl ?_
  refine go_nil ?_
  refine go_env [(0, _), (2, _), (4, _)] ⟨rfl, rfl, rfl, trivial⟩ ?_
  refine go_seq ?_
  refine go_seq ?_
  refine go_region ?_
  refine go_pure0 Tk rfl rfl rfl ?_
  refine go_pure0 Tk rfl rfl rfl ?_
  refine go_nil ?_
  refine go_env [(0, _), (2, _), (4, _), (8, _)] ⟨rfl, rfl, rfl, rfl, trivial⟩ ?_
  refine go_cond_f rfl ?_
  refine go_skip ?_
  refine go_seq ?_
  refine go_cch (by repeat constructor) (fun A1 c1 => ?_)
  refine go_draw'  [3, 9] (pre [(1, 0), (1, 1), (1, 2), (1, 5), (1, 6), (1, 7), (1, 8), (2, 3), (2, 9), (0, 4), (0, 10)] .nil) mixed (by kernel_rfl) ?_
  refine go_pure1 Tk rfl rfl rfl ?_
  refine go_pure1 Tk rfl rfl rfl ?_
  refine go_pure1 Tk rfl rfl rfl ?_
  refine go_pure1 Tk rfl rfl rfl ?_
  refine go_pure1 Tk rfl rfl rfl ?_
  refine go_pure1 Tk rfl rfl rfl ?_
  refine go_pure1 Tk rfl rfl rfl ?_
  refine go_val2 rfl (load_val Tk rfl rfl rfl (by first | exact at_pt (by repeat constructor) (by rfl) | exact at_cl 0 (by repeat constructor) (by rfl) | exact at_cl 1 (by repeat constructor) (by rfl) | exact at_cl 2 (by repeat constructor) (by rfl) | exact at_cl 3 (by repeat constructor) (by rfl) | exact at_cl 4 (by repeat constructor) (by rfl) | exact at_cl 5 (by repeat constructor) (by rfl) | exact at_cl 6 (by repeat constructor) (by rfl) | exact at_cl 7 (by repeat constructor) (by rfl)) (by rfl)) (by repeat constructor) (by repeat constructor) rfl ?_
  refine go_val2 rfl (load_val Tk rfl rfl rfl (by first | exact at_pt (by repeat constructor) (by rfl) | exact at_cl 0 (by repeat constructor) (by rfl) | exact at_cl 1 (by repeat constructor) (by rfl) | exact at_cl 2 (by repeat constructor) (by rfl) | exact at_cl 3 (by repeat constructor) (by rfl) | exact at_cl 4 (by repeat constructor) (by rfl) | exact at_cl 5 (by repeat constructor) (by rfl) | exact at_cl 6 (by repeat constructor) (by rfl) | exact at_cl 7 (by repeat constructor) (by rfl)) (by rfl)) (by repeat constructor) (by repeat constructor) rfl ?_
  refine go_call (cacheOf q.p QA qc q.a hn) rfl rfl (by rfl) rfl (by repeat constructor) (by repeat constructor) (fun _ v Ps' Os' hq => by obtain ⟨rfl, rfl, rfl⟩ := hq; exact satS (by repeat constructor) (by repeat constructor)) ?_
  rintro _ _ _ ⟨rfl, rfl, rfl⟩
  refine go_call (orderPut b R A1 c1 l q v hl hq hm) rfl rfl (by rfl) rfl (by repeat constructor) (by repeat constructor) (fun h => nomatch h) ?_
  rintro _ _ _ ⟨A2, c2, rfl, rfl, rfl⟩
  refine go_nil ?_
  refine go_fold [pt b 94 [.int .i64 R, .slice A2 (cput R l q v).length c2], ol tEn 101 A2 c2 (cput R l q v)] (cch b R (cput R l q v)) (by repeat constructor) (fun _ _ q => cch_mk q) ?_
  refine go_env [] trivial ?_
  refine go_seq ?_
  refine go_region ?_
  refine go_pure0 Tk rfl rfl rfl ?_
  refine go_nil ?_
  refine go_env [(6, _)] ⟨rfl, trivial⟩ ?_
  refine go_ret _ _ (fun a w hp ho hf hs => res1 (by rfl) (.tmp rfl) a w hp ho hf hs) ⟨rfl, rfl, rfl⟩ (by repeat constructor) (by repeat constructor)

set_option maxHeartbeats 2000000 in
set_option maxRecDepth 20000 in
theorem cacheLen (b : Nat) (R : Int) (l : List En) :
    Spec Try.prog 21 #[.pointer (some ⟨b, 0, none⟩)] [] [cch b R l] (fun v Ps' Os' => v = .int .i64 (l.length : Int) ∧ Ps' = [] ∧ Os' = [cch b R l]) := by
  refine spec_of (fn := Try.f21) (args := [.pointer (some ⟨b, 0, none⟩)]) 11 Try.func21 rfl (by kernel_rfl) Try.ntmps21 (Nat.le_of_ble_eq_true rfl) (fun w0 hp0 hf0 => ?_)
  refine go_seq ?_
  refine go_region ?_
  refine go_pure0 Tk rfl rfl rfl ?_
  refine go_nil ?_
  refine go_env [(0, _)] ⟨rfl, trivial⟩ ?_
  refine go_seq ?_
  refine go_seq ?_
  refine go_region ?_
  refine go_pure0 Tk rfl rfl rfl ?_
  refine go_pure0 Tk rfl rfl rfl ?_
  refine go_nil ?_
  refine go_env [(0, _), (4, _)] ⟨rfl, rfl, trivial⟩ ?_
  refine go_cond_f rfl ?_
  refine go_skip ?_
  refine go_seq ?_
  refine go_cch (by repeat constructor) (fun A1 c1 => ?_)
  refine go_region ?_
  refine go_pure0 Tk rfl rfl rfl ?_
  refine go_pure0 Tk rfl rfl rfl ?_
  refine go_pure0 Tk rfl rfl rfl ?_
  refine go_pure0 Tk rfl rfl rfl ?_
  refine go_val0 rfl (load_val Tk rfl rfl rfl (by first | exact at_pt (by repeat constructor) (by rfl) | exact at_cl 0 (by repeat constructor) (by rfl) | exact at_cl 1 (by repeat constructor) (by rfl) | exact at_cl 2 (by repeat constructor) (by rfl) | exact at_cl 3 (by repeat constructor) (by rfl) | exact at_cl 4 (by repeat constructor) (by rfl) | exact at_cl 5 (by repeat constructor) (by rfl) | exact at_cl 6 (by repeat constructor) (by rfl) | exact at_cl 7 (by repeat constructor) (by rfl)) (by rfl)) rfl ?_
  refine go_pure0 Tk rfl rfl rfl ?_
  refine go_pure0 Tk rfl rfl rfl ?_
  refine go_nil ?_
  refine go_fold [pt b 94 [.int .i64 R, .slice A1 (l).length c1], ol tEn 101 A1 c1 (l)] (cch b R (l)) (by repeat constructor) (fun _ _ q => cch_mk q) ?_
  refine go_env [(2, _)] ⟨rfl, trivial⟩ ?_
  refine go_ret _ _ (fun a w hp ho hf hs => res1 (by rfl) (.tmp rfl) a w hp ho hf hs) ⟨rfl, rfl, rfl⟩ (by repeat constructor) (by repeat constructor)

set_option maxHeartbeats 2000000 in
set_option maxRecDepth 20000 in
theorem cacheClear (b : Nat) (R : Int) (l : List En) :
    Spec Try.prog 23 #[.pointer (some ⟨b, 0, none⟩)] [] [cch b R l] (fun v Ps' Os' => v = .tuple #[] ∧ Ps' = [] ∧ Os' = [cch b R []]) := by
  refine spec_of (fn := Try.f23) (args := [.pointer (some ⟨b, 0, none⟩)]) 8 Try.func23 rfl (by kernel_rfl) Try.ntmps23 (Nat.le_of_ble_eq_true rfl) (fun w0 hp0 hf0 => ?_)
  refine go_seq ?_
  refine go_region ?_
  refine go_pure0 Tk rfl rfl rfl ?_
  refine go_pure0 Tk rfl rfl rfl ?_
  refine go_nil ?_
  refine go_env [(0, _), (3, _)] ⟨rfl, rfl, trivial⟩ ?_
  refine go_cond_t rfl ?_
  refine go_cch (by repeat constructor) (fun A1 c1 => ?_)
  refine go_region ?_
  refine go_pure0 Tk rfl rfl rfl ?_
  refine go_pure0 Tk rfl rfl rfl ?_
  refine go_pure0 Tk rfl rfl rfl ?_
  refine go_pure0 Tk rfl rfl rfl ?_
  refine go_store Tk rfl rfl rfl rfl rfl rfl (by repeat constructor) rfl rfl (by rfl) (fun h => nomatch h) ?_
  refine go_nil ?_
  refine go_own_nil tEn 101 none ?_
  refine go_fold [pt b 94 [.int .i64 R, .slice none ([]).length 0], ol tEn 101 none 0 ([])] (cch b R ([])) (by repeat constructor) (fun _ _ q => cch_mk q) ?_
  refine go_end _ _ (fun a w hp ho hf hs => res0 (by rfl) a w hp ho hf hs) ⟨rfl, rfl, rfl⟩ (by repeat constructor) (by repeat constructor)

set_option maxHeartbeats 2000000 in
set_option maxRecDepth 20000 in
theorem cacheGet0 (q : Fa) (QA : Option Addr) (qc : Nat) :
    Spec Try.prog 20 #[.pointer none, .agg #[.int .u32 q.p, .slice QA q.a.length qc]] [] [] (fun v Ps' Os' => v = .tuple #[.int .u8 0, .bool false] ∧ Ps' = [] ∧ Os' = []) := by
  refine spec_of (fn := Try.f20) (args := [.pointer none, .agg #[.int .u32 q.p, .slice QA q.a.length qc]]) 26 Try.func20 rfl (by kernel_rfl) Try.ntmps20 (Nat.le_of_ble_eq_true rfl) (fun w0 hp0 hf0 => ?_)
  refine go_seq ?_
  refine go_region ?_
  refine go_box Tk rfl rfl rfl rfl (by rfl) rfl rfl (fun h => nomatch h) ?_
  intro b1
  refine go_pure0 Tk rfl rfl rfl ?_
  refine go_pure0 Tk rfl rfl rfl ?_
  refine go_nil ?_
  refine go_env [(0, _), (3, _)] ⟨rfl, rfl, trivial⟩ ?_
  refine go_seq ?_
  refine go_seq ?_
  refine go_region ?_
  refine go_pure0 Tk rfl rfl rfl ?_
  refine go_pure0 Tk rfl rfl rfl ?_
  refine go_nil ?_
  refine go_env [(0, _), (3, _), (8, _)] ⟨rfl, rfl, rfl, trivial⟩ ?_
  refine go_cond_t rfl ?_
  refine go_seq ?_
  refine go_region ?_
  refine go_pure0 Tk rfl rfl rfl ?_
  refine go_pure0 Tk rfl rfl rfl ?_
  refine go_nil ?_
  refine go_env [(4, _), (5, _)] ⟨rfl, rfl, trivial⟩ ?_
  refine go_ret _ _ (fun a w hp ho hf hs => res2 (by rfl) (.tmp rfl) (.tmp rfl) a w hp ho hf hs) ⟨rfl, rfl, rfl⟩ (by repeat constructor) (by repeat constructor)

set_option maxHeartbeats 2000000 in
set_option maxRecDepth 20000 in
theorem cachePut0 (q : Fa) (QA : Option Addr) (qc : Nat) (v : Int) :
    Spec Try.prog 19 #[.pointer none, .agg #[.int .u32 q.p, .slice QA q.a.length qc], .int .u8 v] [] [] (fun v Ps' Os' => v = .int .i64 2 ∧ Ps' = [] ∧ Os' = []) := by
  refine spec_of (fn := Try.f19) (args := [.pointer none, .agg #[.int .u32 q.p, .slice QA q.a.length qc], .int .u8 v]) 20 Try.func19 rfl (by kernel_rfl) Try.ntmps19 (Nat.le_of_ble_eq_true rfl) (fun w0 hp0 hf0 => ?_)
  refine go_seq ?_
  refine go_region ?_
  refine go_box Tk rfl rfl rfl rfl (by rfl) rfl rfl (fun h => nomatch h) ?_
  intro b1
  refine go_pure0 Tk rfl rfl rfl ?_
  refine go_nil ?_
  refine go_env [(0, _), (2, _), (4, _)] ⟨rfl, rfl, rfl, trivial⟩ ?_
  refine go_seq ?_
  refine go_seq ?_
  refine go_region ?_
  refine go_pure0 Tk rfl rfl rfl ?_
  refine go_pure0 Tk rfl rfl rfl ?_
  refine go_nil ?_
  refine go_env [(0, _), (2, _), (4, _), (8, _)] ⟨rfl, rfl, rfl, rfl, trivial⟩ ?_
  refine go_cond_t rfl ?_
  refine go_seq ?_
  refine go_region ?_
  refine go_pure0 Tk rfl rfl rfl ?_
  refine go_nil ?_
  refine go_env [(6, _)] ⟨rfl, trivial⟩ ?_
  refine go_ret _ _ (fun a w hp ho hf hs => res1 (by rfl) (.tmp rfl) a w hp ho hf hs) ⟨rfl, rfl, rfl⟩ (by repeat constructor) (by repeat constructor)

set_option maxHeartbeats 2000000 in
set_option maxRecDepth 20000 in
theorem cacheLen0  :
    Spec Try.prog 21 #[.pointer none] [] [] (fun v Ps' Os' => v = .int .i64 0 ∧ Ps' = [] ∧ Os' = []) := by
  refine spec_of (fn := Try.f21) (args := [.pointer none]) 11 Try.func21 rfl (by kernel_rfl) Try.ntmps21 (Nat.le_of_ble_eq_true rfl) (fun w0 hp0 hf0 => ?_)
  refine go_seq ?_
  refine go_region ?_
  refine go_pure0 Tk rfl rfl rfl ?_
  refine go_nil ?_
  refine go_env [(0, _)] ⟨rfl, trivial⟩ ?_
  refine go_seq ?_
  refine go_seq ?_
  refine go_region ?_
  refine go_pure0 Tk rfl rfl rfl ?_
  refine go_pure0 Tk rfl rfl rfl ?_
  refine go_nil ?_
  refine go_env [(0, _), (4, _)] ⟨rfl, rfl, trivial⟩ ?_
  refine go_cond_t rfl ?_
  refine go_seq ?_
  refine go_region ?_
  refine go_pure0 Tk rfl rfl rfl ?_
  refine go_nil ?_
  refine go_env [(2, _)] ⟨rfl, trivial⟩ ?_
  refine go_ret _ _ (fun a w hp ho hf hs => res1 (by rfl) (.tmp rfl) a w hp ho hf hs) ⟨rfl, rfl, rfl⟩ (by repeat constructor) (by repeat constructor)

set_option maxHeartbeats 2000000 in
set_option maxRecDepth 20000 in
theorem cacheClear0  :
    Spec Try.prog 23 #[.pointer none] [] [] (fun v Ps' Os' => v = .tuple #[] ∧ Ps' = [] ∧ Os' = []) := by
  refine spec_of (fn := Try.f23) (args := [.pointer none]) 8 Try.func23 rfl (by kernel_rfl) Try.ntmps23 (Nat.le_of_ble_eq_true rfl) (fun w0 hp0 hf0 => ?_)
  refine go_seq ?_
  refine go_region ?_
  refine go_pure0 Tk rfl rfl rfl ?_
  refine go_pure0 Tk rfl rfl rfl ?_
  refine go_nil ?_
  refine go_env [(0, _), (3, _)] ⟨rfl, rfl, trivial⟩ ?_
  refine go_cond_f rfl ?_
  refine go_skip ?_
  refine go_end _ _ (fun a w hp ho hf hs => res0 (by rfl) a w hp ho hf hs) ⟨rfl, rfl, rfl⟩ (by repeat constructor) (by repeat constructor)

theorem works_l1 : ∀ x ∈ (cput 1 [] ⟨1, [2]⟩ 1), x.1.ok := cput_ok (by simp) (by simp [Fa.ok])
theorem works_l2 : ∀ x ∈ (cput 1 (cput 1 [] ⟨1, [2]⟩ 1) ⟨1, [3]⟩ 0), x.1.ok := cput_ok works_l1 (by simp [Fa.ok])

set_option maxHeartbeats 2000000 in
set_option maxRecDepth 20000 in
theorem cacheWorks  :
    Spec Try.prog 17 #[] [] [] (fun v Ps' Os' => v = .bool true ∧ Ps' = [] ∧ Os' = []) := by
  refine spec_of (fn := Try.f17) (args := []) 59 Try.func17 rfl (by kernel_rfl) Try.ntmps17 (Nat.le_of_ble_eq_true rfl) (fun w0 hp0 hf0 => ?_)
  refine go_seq ?_
  refine go_region ?_
  refine go_pure0 Tk rfl rfl rfl ?_
  refine go_nil ?_
  refine go_env [] trivial ?_
  refine go_seq ?_
  refine go_region ?_
  refine go_call (cacheNewOk 1 (by omega)) rfl rfl (by rfl) rfl (by repeat constructor) (by repeat constructor) (fun h => nomatch h) ?_
  rintro _ _ _ ⟨b, rfl, rfl, rfl⟩
  refine go_pure0 Tk rfl rfl rfl ?_
  refine go_pure0 Tk rfl rfl rfl ?_
  refine go_pure0 Tk rfl rfl rfl ?_
  refine go_pure0 Tk rfl rfl rfl ?_
  refine go_pure0 Tk rfl rfl rfl ?_
  refine go_nil ?_
  refine go_env [(1, _), (2, _)] ⟨rfl, rfl, trivial⟩ ?_
  refine go_seq ?_
  refine go_seq ?_
  refine go_region ?_
  refine go_pure0 Tk rfl rfl rfl ?_
  refine go_pure0 Tk rfl rfl rfl ?_
  refine go_pure0 Tk rfl rfl rfl ?_
  refine go_pure0 Tk rfl rfl rfl ?_
  refine go_pure0 Tk rfl rfl rfl ?_
  refine go_pure0 Tk rfl rfl rfl ?_
  refine go_nil ?_
  refine go_env [(1, _), (18, _)] ⟨rfl, rfl, trivial⟩ ?_
  refine go_cond_f rfl ?_
  refine go_skip ?_
  refine go_seq ?_
  refine go_region ?_
  refine go_pure0 Tk rfl rfl rfl ?_
  refine go_bslice Tk rfl rfl rfl rfl rfl rfl rfl rfl (fun h => nomatch h) ?_
  intro b1
  refine go_lit_int (kk := .u32) [2] (by repeat constructor) (by simp) ?_
  refine go_val0 rfl (fun a w hp ho hf hs => build_val Tk rfl rfl rfl (by rfl) a w hf) rfl ?_
  refine go_call (cachePut b 1 [] ⟨1, [2]⟩ _ _ (by simp) (by simp [Fa.ok]) (by simp) 1 (by simp)) rfl rfl (by rfl) rfl (by repeat constructor) (by repeat constructor) (fun h => nomatch h) ?_
  rintro _ _ _ ⟨rfl, rfl, rfl⟩
  refine go_nil ?_
  refine go_env [(1, _)] ⟨rfl, trivial⟩ ?_
  refine go_seq ?_
  refine go_region ?_
  refine go_pure0 Tk rfl rfl rfl ?_
  refine go_bslice Tk rfl rfl rfl rfl rfl rfl rfl rfl (fun h => nomatch h) ?_
  intro b2
  refine go_lit_int (kk := .u32) [3] (by repeat constructor) (by simp) ?_
  refine go_val0 rfl (fun a w hp ho hf hs => build_val Tk rfl rfl rfl (by rfl) a w hf) rfl ?_
  refine go_call (cachePut b 1 (cput 1 [] ⟨1, [2]⟩ 1) ⟨1, [3]⟩ _ _ works_l1 (by simp [Fa.ok]) (by simp) 0 (by decide)) rfl rfl (by rfl) rfl (by repeat constructor) (by repeat constructor) (fun h => nomatch h) ?_
  rintro _ _ _ ⟨rfl, rfl, rfl⟩
  refine go_nil ?_
  refine go_env [(1, _)] ⟨rfl, trivial⟩ ?_
  refine go_seq ?_
  refine go_region ?_
  refine go_pure0 Tk rfl rfl rfl ?_
  refine go_bslice Tk rfl rfl rfl rfl rfl rfl rfl rfl (fun h => nomatch h) ?_
  intro b3
  refine go_lit_int (kk := .u32) [2] (by repeat constructor) (by simp) ?_
  refine go_val0 rfl (fun a w hp ho hf hs => build_val Tk rfl rfl rfl (by rfl) a w hf) rfl ?_
  refine go_call (cacheGet b 1 (cput 1 (cput 1 [] ⟨1, [2]⟩ 1) ⟨1, [3]⟩ 0) ⟨1, [2]⟩ _ _ works_l2 (by simp [Fa.ok]) (by simp)) rfl rfl (by rfl) rfl (by repeat constructor) (by repeat constructor) (fun h => nomatch h) ?_
  rintro _ _ _ ⟨rfl, rfl, rfl⟩
  refine go_pure0 Tk rfl rfl rfl ?_
  refine go_pure0 Tk rfl rfl rfl ?_
  refine go_pure0 Tk rfl rfl rfl ?_
  refine go_pure0 Tk rfl rfl rfl ?_
  refine go_pure0 Tk rfl rfl rfl ?_
  refine go_nil ?_
  refine go_env [(1, _), (4, _)] ⟨rfl, rfl, trivial⟩ ?_
  refine go_seq ?_
  refine go_region ?_
  refine go_pure0 Tk rfl rfl rfl ?_
  refine go_bslice Tk rfl rfl rfl rfl rfl rfl rfl rfl (fun h => nomatch h) ?_
  intro b4
  refine go_lit_int (kk := .u32) [3] (by repeat constructor) (by simp) ?_
  refine go_val0 rfl (fun a w hp ho hf hs => build_val Tk rfl rfl rfl (by rfl) a w hf) rfl ?_
  refine go_call (cacheGet b 1 (cput 1 (cput 1 [] ⟨1, [2]⟩ 1) ⟨1, [3]⟩ 0) ⟨1, [3]⟩ _ _ works_l2 (by simp [Fa.ok]) (by simp)) rfl rfl (by rfl) rfl (by repeat constructor) (by repeat constructor) (fun h => nomatch h) ?_
  rintro _ _ _ ⟨rfl, rfl, rfl⟩
  refine go_pure0 Tk rfl rfl rfl ?_
  refine go_pure0 Tk rfl rfl rfl ?_
  refine go_pure0 Tk rfl rfl rfl ?_
  refine go_pure0 Tk rfl rfl rfl ?_
  refine go_pure0 Tk rfl rfl rfl ?_
  refine go_nil ?_
  refine go_env [(1, _), (4, _), (6, _)] ⟨rfl, rfl, rfl, trivial⟩ ?_
  refine go_seq ?_
  refine go_region ?_
  refine go_call (cacheNewBad 0 (by omega)) rfl rfl (by rfl) rfl (by repeat constructor) (by repeat constructor) (fun h => nomatch h) ?_
  rintro _ _ _ ⟨rfl, rfl, rfl⟩
  refine go_pure0 Tk rfl rfl rfl ?_
  refine go_pure0 Tk rfl rfl rfl ?_
  refine go_pure0 Tk rfl rfl rfl ?_
  refine go_pure0 Tk rfl rfl rfl ?_
  refine go_pure0 Tk rfl rfl rfl ?_
  refine go_nil ?_
  refine go_env [(1, _), (4, _), (6, _), (8, _)] ⟨rfl, rfl, rfl, rfl, trivial⟩ ?_
  refine go_seq ?_
  refine go_region ?_
  refine go_pure0 Tk rfl rfl rfl ?_
  refine go_pure0 Tk rfl rfl rfl ?_
  refine go_pure0 Tk rfl rfl rfl ?_
  refine go_pure0 Tk rfl rfl rfl ?_
  refine go_pure0 Tk rfl rfl rfl ?_
  refine go_pure0 Tk rfl rfl rfl ?_
  refine go_pure0 Tk rfl rfl rfl ?_
  refine go_call (cacheLen b 1 (cput 1 (cput 1 [] ⟨1, [2]⟩ 1) ⟨1, [3]⟩ 0)) rfl rfl (by rfl) rfl (by repeat constructor) (by repeat constructor) (fun h => nomatch h) ?_
  rintro _ _ _ ⟨rfl, rfl, rfl⟩
  refine go_pure0 Tk rfl rfl rfl ?_
  refine go_pure0 Tk rfl rfl rfl ?_
  refine go_pure0 Tk rfl rfl rfl ?_
  refine go_pure0 Tk rfl rfl rfl ?_
  refine go_pure0 Tk rfl rfl rfl ?_
  refine go_pure0 Tk rfl rfl rfl ?_
  refine go_pure0 Tk rfl rfl rfl ?_
  refine go_nil ?_
  refine go_env [(0, _)] ⟨rfl, trivial⟩ ?_
  refine go_ret _ _ (fun a w hp ho hf hs => res1 (by rfl) (.tmp rfl) a w hp ho hf hs) ⟨rfl, rfl, rfl⟩ (by repeat constructor) (by repeat constructor)

end Go.Proofs.Ytdkfpgdfjnaciaa.SL
