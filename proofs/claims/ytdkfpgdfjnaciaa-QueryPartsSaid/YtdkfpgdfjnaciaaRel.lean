/- Contracts of functions of the program (Rel): what each call comes to, for the laws' proofs. -/
import Derived.Test.YtdkfpgdfjnaciaaCompare
import Derived.Test.YtdkfpgdfjnaciaaD5
set_option linter.unusedVariables false
set_option linter.unusedSimpArgs false
namespace Go.Proofs.Ytdkfpgdfjnaciaa.SL
open Go 

set_option maxHeartbeats 2000000 in
set_option maxRecDepth 20000 in
theorem cloneU (A : Option Addr) (c : Nat) (a : List Int) (hn : a.length ≤ 100000) :
    Spec Try.prog 89 #[.slice A a.length c] [sl tU A c a] [] (fun v Ps' Os' => ∃ A' c', v = .slice A' a.length c' ∧ Ps' = [] ∧ Os' = [ol tU 28 A' c' a]) := by
  refine spec_of (fn := Try.f89) (args := [.slice A a.length c]) 8 Try.func89 rfl (by kernel_rfl) Try.ntmps89 (Nat.le_of_ble_eq_true rfl) (fun w0 hp0 hf0 => ?_)
  refine go_seq ?_
  refine go_region rfl ?_
  refine go_pure0 Tk rfl rfl rfl ?_
  refine go_nil ?_
  refine go_env [(0, _)] ⟨rfl, trivial⟩ ?_
  refine go_seq ?_
  refine go_seq ?_
  refine go_region rfl ?_
  refine go_pure0 Tk rfl rfl rfl ?_
  refine go_pure0 Tk rfl rfl rfl ?_
  refine go_nil ?_
  refine go_env [(0, _), (4, _)] ⟨rfl, rfl, trivial⟩ ?_
  refine go_cond rfl ?_ ?_
  · intro c1
    (try simp only [decide_eq_true_eq, decide_eq_false_iff_not, Bool.not_eq_true', Bool.not_eq_false', Bool.not_eq_eq_eq_not, Bool.not_true, Bool.not_false, Int.not_lt, Int.not_le, beq_iff_eq, beq_eq_false_iff_ne, ne_eq] at c1)
    obtain rfl : A = none := by simpa using c1
    refine go_nil_sl (xs := a) (by repeat constructor) (fun ha => ?_)
    subst ha
    refine go_own_nil tU 28 none ?_
    refine go_seq ?_
    refine go_region rfl ?_
    refine go_pure0 Tk rfl rfl rfl ?_
    refine go_nil ?_
    refine go_env [(2, _)] ⟨rfl, trivial⟩ ?_
    refine go_ret ⟨rfl, rfl⟩ _ _ (fun a w hp ho hf hs => res1 (by rfl) (.tmp rfl) a w hp ho hf hs) ⟨none, 0, rfl, rfl, rfl⟩ (by repeat constructor) (by repeat constructor)
  · intro c1
    (try simp only [decide_eq_true_eq, decide_eq_false_iff_not, Bool.not_eq_true', Bool.not_eq_false', Bool.not_eq_eq_eq_not, Bool.not_true, Bool.not_false, Int.not_lt, Int.not_le, beq_iff_eq, beq_eq_false_iff_ne, ne_eq] at c1)
    refine go_skip ?_
    refine go_seq ?_
    refine go_region rfl ?_
    refine go_bslice Tk rfl rfl rfl rfl rfl rfl rfl rfl (fun h => nomatch h) ?_
    intro bo
    refine go_lit_ol (b := bo) tU [] (by repeat constructor) (fun _ _ => rfl) (by simp) ?_
    refine go_pure0 Tk rfl rfl rfl ?_
    refine go_appendN (T := tU) (xs := []) (ys := a) Tk rfl rfl rfl rfl rfl rfl rfl rfl rfl (by repeat constructor) rfl (by repeat constructor) (by simp; omega) (fun h => nomatch h) ?_
    intro A2 c2
    rw [List.nil_append]
    refine go_pure0 Tk rfl rfl rfl ?_
    refine go_nil ?_
    refine go_env [(2, _)] ⟨rfl, trivial⟩ ?_
    refine go_ret ⟨rfl, rfl⟩ _ _ (fun a w hp ho hf hs => res1 (by rfl) (.tmp rfl) a w hp ho hf hs) ⟨A2, c2, rfl, rfl, rfl⟩ (by repeat constructor) (by repeat constructor)

set_option maxHeartbeats 2000000 in
set_option maxRecDepth 20000 in
theorem relCopied (q : Fa) (QA : Option Addr) (qc : Nat) (hn : q.a.length ≤ 100000) :
    Spec Try.prog 73 #[.agg #[.int .u32 q.p, .slice QA q.a.length qc]] [sl tU QA qc q.a] [] (fun v Ps' Os' => ∃ A' c', v = .agg #[.int .u32 q.p, .slice A' q.a.length c'] ∧ Ps' = [] ∧ Os' = [ol tU 28 A' c' q.a]) := by
  refine spec_of (fn := Try.f73) (args := [.agg #[.int .u32 q.p, .slice QA q.a.length qc]]) 8 Try.func73 rfl (by kernel_rfl) Try.ntmps73 (Nat.le_of_ble_eq_true rfl) (fun w0 hp0 hf0 => ?_)
  refine go_seq ?_
  refine go_region rfl ?_
  refine go_box Tk rfl rfl rfl rfl (by rfl) rfl rfl (fun h => nomatch h) ?_
  intro b1
  refine go_alloc Tk rfl rfl rfl (by rfl) rfl rfl (fun h => nomatch h) ?_
  intro b2
  refine go_nil ?_
  refine go_env [(1, _), (2, _)] ⟨rfl, rfl, trivial⟩ ?_
  refine go_seq ?_
  refine go_region rfl ?_
  refine go_pure0 Tk rfl rfl rfl ?_
  refine go_val0 rfl (load_val Tk rfl rfl rfl (by first | exact at_pt (by repeat constructor) (by rfl) | exact at_cl 0 (by repeat constructor) (by rfl) | exact at_cl 1 (by repeat constructor) (by rfl) | exact at_cl 2 (by repeat constructor) (by rfl) | exact at_cl 3 (by repeat constructor) (by rfl) | exact at_cl 4 (by repeat constructor) (by rfl) | exact at_cl 5 (by repeat constructor) (by rfl) | exact at_cl 6 (by repeat constructor) (by rfl) | exact at_cl 7 (by repeat constructor) (by rfl)) (by rfl)) rfl ?_
  refine go_call (cloneU QA qc q.a hn) rfl rfl (by rfl) rfl (by repeat constructor) (by repeat constructor) (fun h => nomatch h) ?_
  rintro _ _ _ ⟨A', c', rfl, rfl, rfl⟩
  refine go_pure0 Tk rfl rfl rfl ?_
  refine go_store Tk rfl rfl rfl rfl rfl rfl (by repeat constructor) rfl rfl (by rfl) (fun h => nomatch h) ?_
  refine go_nil ?_
  refine go_env [(1, _), (2, _)] ⟨rfl, rfl, trivial⟩ ?_
  refine go_seq ?_
  refine go_region rfl ?_
  refine go_val0 rfl (load_val Tk rfl rfl rfl (by first | exact at_pt (by repeat constructor) (by rfl) | exact at_cl 0 (by repeat constructor) (by rfl) | exact at_cl 1 (by repeat constructor) (by rfl) | exact at_cl 2 (by repeat constructor) (by rfl) | exact at_cl 3 (by repeat constructor) (by rfl) | exact at_cl 4 (by repeat constructor) (by rfl) | exact at_cl 5 (by repeat constructor) (by rfl) | exact at_cl 6 (by repeat constructor) (by rfl) | exact at_cl 7 (by repeat constructor) (by rfl)) (by rfl)) rfl ?_
  refine go_store Tk rfl rfl rfl rfl rfl rfl (by repeat constructor) rfl rfl (by rfl) (fun h => nomatch h) ?_
  refine go_nil ?_
  refine go_env [(2, _)] ⟨rfl, trivial⟩ ?_
  refine go_ret ⟨rfl, rfl⟩ _ _ (fun a w hp ho hf hs => res1 (by rfl) (.cell rfl (reads_at Tk rfl (by first | exact at_pt (by repeat constructor) (by rfl) | exact at_cl 0 (by repeat constructor) (by rfl) | exact at_cl 1 (by repeat constructor) (by rfl) | exact at_cl 2 (by repeat constructor) (by rfl) | exact at_cl 3 (by repeat constructor) (by rfl) | exact at_cl 4 (by repeat constructor) (by rfl) | exact at_cl 5 (by repeat constructor) (by rfl) | exact at_cl 6 (by repeat constructor) (by rfl) | exact at_cl 7 (by repeat constructor) (by rfl)) (by rfl))) a w hp ho hf hs) ⟨A', c', rfl, rfl, rfl⟩ (by repeat constructor) (by repeat constructor)

set_option maxHeartbeats 2000000 in
set_option maxRecDepth 20000 in
theorem deleteFa (A : Option Addr) (c : Nat) (l : List Fa) (i j : Nat) (hi : i ≤ j) (hj : j ≤ l.length) :
    Spec Try.prog 71 #[.slice A l.length c, .int .i64 (i : Int), .int .i64 (j : Int)] [] [ol tFa 31 A c l] (fun v Ps' Os' => v = .slice A (l.take i ++ l.drop j).length c ∧ Ps' = [] ∧ Os' = [ol tFa 31 A c (l.take i ++ l.drop j)]) := by
  refine spec_of (fn := Try.f71) (args := [.slice A l.length c, .int .i64 (i : Int), .int .i64 (j : Int)]) 33 Try.func71 rfl (by kernel_rfl) Try.ntmps71 (Nat.le_of_ble_eq_true rfl) (fun w0 hp0 hf0 => ?_)
  refine go_seq ?_
  refine go_len_ol (xs := l) (by repeat constructor) (fun l0 m0 => ?_)
  refine go_region rfl ?_
  refine go_pure0 Tk rfl rfl rfl ?_
  refine go_nil ?_
  refine go_env [(0, _), (1, _), (2, _)] ⟨rfl, rfl, rfl, trivial⟩ ?_
  refine go_seq ?_
  refine go_region rfl ?_
  refine go_pure0 Tk rfl rfl rfl ?_
  refine go_pure0 Tk rfl rfl rfl ?_
  refine go_pure0 Tk rfl rfl rfl ?_
  refine go_pure0 Tk rfl rfl rfl ?_
  refine go_pure0 Tk rfl rfl rfl ?_
  refine go_val0 rfl (slice_val' Tk rfl rfl rfl rfl i j l.length _ (by first | rfl | exact ⟨_, rfl⟩ | exact ⟨rfl, rfl⟩) (by first | rfl | exact ⟨_, rfl⟩ | exact ⟨rfl, rfl⟩) (by first | rfl | exact ⟨_, rfl⟩ | exact ⟨rfl, rfl⟩) hi hj (by omega) rfl) rfl ?_
  refine go_nil ?_
  refine go_env [(0, _), (1, _), (2, _)] ⟨rfl, rfl, rfl, trivial⟩ ?_
  refine go_seq ?_
  refine go_seq ?_
  refine go_region rfl ?_
  refine go_pure0 Tk rfl rfl rfl ?_
  refine go_pure0 Tk rfl rfl rfl ?_
  refine go_pure0 Tk rfl rfl rfl ?_
  refine go_nil ?_
  refine go_env [(0, _), (1, _), (2, _), (16, _)] ⟨rfl, rfl, rfl, rfl, trivial⟩ ?_
  refine go_condD rfl ?_ ?_
  · intro c1
    obtain rfl : i = j := by omega
    rw [List.take_append_drop]
    refine go_seq ?_
    refine go_region rfl ?_
    refine go_pure0 Tk rfl rfl rfl ?_
    refine go_pure0 Tk rfl rfl rfl ?_
    refine go_nil ?_
    refine go_env [(6, _)] ⟨rfl, trivial⟩ ?_
    refine go_ret ⟨rfl, rfl⟩ _ _ (fun a w hp ho hf hs => res1 (by rfl) (.tmp rfl) a w hp ho hf hs) ⟨rfl, rfl, rfl⟩ (by repeat constructor) (by repeat constructor)
  · intro c1
    refine go_skip ?_
    refine go_seq ?_
    refine go_region rfl ?_
    refine go_pure0 Tk rfl rfl rfl ?_
    refine go_pure0 Tk rfl rfl rfl ?_
    refine go_pure0 Tk rfl rfl rfl ?_
    refine go_nil ?_
    refine go_env [(0, _), (1, _), (2, _), (7, _)] ⟨rfl, rfl, rfl, rfl, trivial⟩ ?_
    refine go_seq ?_
    refine go_ol_open (xs := l) (by repeat constructor) (by omega) (fun b cs cur hA h1 h2 h3 h4 h5 => ?_); cases hA
    refine go_draw'  [] (SL.pre [(1, 0), (1, 1), (1, 2), (1, 3), (1, 4), (1, 5), (0, 6), (1, 7)] .nil) mixed rfl (by kernel_rfl) ?_
    refine go_pure1 Tk rfl rfl rfl ?_
    refine go_pure1 Tk rfl rfl rfl ?_
    refine go_val1 rfl (slice_val' Tk rfl rfl rfl rfl 0 i c (.slice (some ⟨b, 0, none⟩) i c) (by first | rfl | exact ⟨_, rfl⟩ | exact ⟨rfl, rfl⟩) (by first | rfl | exact ⟨_, rfl⟩ | exact ⟨rfl, rfl⟩) (by first | rfl | exact ⟨_, rfl⟩ | exact ⟨rfl, rfl⟩) (by omega) (by omega) (by omega) (by rw [sub0]; rfl)) rfl ?_
    refine go_pure1 Tk rfl rfl rfl ?_
    refine go_pure1 Tk rfl rfl rfl ?_
    refine go_val1 rfl (slice_val' Tk rfl rfl rfl rfl j l.length c (.slice (some ⟨b, (if c = j then 0 else 0 + j * (tFa).size), none⟩) (l.length - j) (c - j)) (by first | rfl | exact ⟨_, rfl⟩ | exact ⟨rfl, rfl⟩) (by first | rfl | exact ⟨_, rfl⟩ | exact ⟨rfl, rfl⟩) (by first | rfl | exact ⟨_, rfl⟩ | exact ⟨rfl, rfl⟩) (by omega) (by omega) (by omega) (by split <;> simp_all [run_addOff] <;> rfl)) rfl ?_
    refine go_fact (rps tFa l cs) (by repeat constructor) (fun _ q => Reps.one q) (fun hone => ?_)
    refine go_append_in Tk rfl rfl rfl rfl rfl rfl rfl (by repeat constructor) (m := l.length - j) (news := cs.drop (j * (tFa).size)) (at_any (by repeat constructor) (by rw [List.length_drop, h5, Nat.sub_mul]; rfl) (cut_news h2 _ (by split <;> omega))) (oneCells_drop _ hone) (by omega) h1 (fun h => nomatch h) ?_
    refine go_pure1 Tk rfl rfl rfl ?_
    refine go_nil ?_
    refine go_env [(0, _), (7, _)] ⟨rfl, rfl, trivial⟩ ?_
    refine go_seq ?_
    refine go_region rfl ?_
    refine go_pure0 Tk rfl rfl rfl ?_
    refine go_pure0 Tk rfl rfl rfl ?_
    refine go_pure0 Tk rfl rfl rfl ?_
    refine go_pure0 Tk rfl rfl rfl ?_
    refine go_val0 rfl (slice_val' Tk rfl rfl rfl rfl (i + (l.length - j)) l.length c (.slice (some ⟨b, 0 + (i + (l.length - j)) * (tFa).size, none⟩) (l.length - (i + (l.length - j))) (c - (i + (l.length - j)))) (by first | rfl | exact ⟨_, rfl⟩ | exact ⟨rfl, rfl⟩) (by first | rfl | exact ⟨_, rfl⟩ | exact ⟨rfl, rfl⟩) (by first | rfl | exact ⟨_, rfl⟩ | exact ⟨rfl, rfl⟩) (by omega) (by omega) (by omega) (by rw [subN (by omega)]; rfl)) rfl ?_
    refine go_clear Tk rfl rfl rfl rfl rfl rfl rfl rfl (by repeat constructor) (by rw [Nat.zero_add]; exact (cut_take (zs := List.replicate ((l.length - (i + (l.length - j))) * (tFa).size) default) h1 h2 h3 hi hj (by simp) _ rfl).2.2) (fun h => nomatch h) ?_
    intro zs hzs
    have hcs := cut_take h1 h2 h3 hi hj hzs _ (Nat.zero_add _)
    have hlen : (l.take i ++ l.drop j).length = i + (l.length - j) := by simp; omega
    refine go_rps _ (xs := l) (by repeat constructor) (fun _ q => q.cut (i := i) (j := j) (by omega) hj) ?_
    refine go_ol_close (l.take i ++ l.drop j) (by repeat constructor) (by repeat constructor) hcs.2.1 (by rw [hlen]; exact hcs.1) (by omega) h4 ?_
    rw [← hlen]
    refine go_nil ?_
    refine go_env [(0, _)] ⟨rfl, trivial⟩ ?_
    refine go_seq ?_
    refine go_region rfl ?_
    refine go_pure0 Tk rfl rfl rfl ?_
    refine go_pure0 Tk rfl rfl rfl ?_
    refine go_nil ?_
    refine go_env [(6, _)] ⟨rfl, trivial⟩ ?_
    refine go_ret ⟨rfl, rfl⟩ _ _ (fun a w hp ho hf hs => res1 (by rfl) (.tmp rfl) a w hp ho hf hs) ⟨rfl, rfl, rfl⟩ (by repeat constructor) (by repeat constructor)

set_option maxHeartbeats 2000000 in
set_option maxRecDepth 20000 in
theorem binSearch (A : Option Addr) (c : Nat) (l : List Fa) (q : Fa) (QA : Option Addr) (qc : Nat) (hr : rises l) (hn : l.length ≤ 1000000) :
    Spec Try.prog 99 #[.slice A l.length c, .agg #[.int .u32 q.p, .slice QA q.a.length qc], .func (.func 49) #[] #[]] [sl tU QA qc q.a] [ol tFa 31 A c l] (fun v Ps' Os' => v = .tuple #[.int .i64 (at_ l q : Int), .bool (decide (q ∈ l))] ∧ Ps' = [] ∧ Os' = [ol tFa 31 A c l]) := by
  refine spec_of (fn := Try.f99) (args := [.slice A l.length c, .agg #[.int .u32 q.p, .slice QA q.a.length qc], .func (.func 49) #[] #[]]) 49 Try.func99 rfl (by kernel_rfl) Try.ntmps99 (Nat.le_of_ble_eq_true rfl) (fun w0 hp0 hf0 => ?_)
  refine go_seq ?_
  refine go_region rfl ?_
  refine go_box Tk rfl rfl rfl rfl (by rfl) rfl rfl (fun h => nomatch h) ?_
  intro b1
  refine go_pure0 Tk rfl rfl rfl ?_
  refine go_pure0 Tk rfl rfl rfl ?_
  refine go_nil ?_
  refine go_env [(0, _), (2, _), (4, _)] ⟨rfl, rfl, rfl, trivial⟩ ?_
  refine go_seq ?_
  refine go_region rfl ?_
  refine go_pure0 Tk rfl rfl rfl ?_
  refine go_pure0 Tk rfl rfl rfl ?_
  refine go_pure0 Tk rfl rfl rfl ?_
  refine go_nil ?_
  refine go_env [(0, _), (2, _), (4, _), (8, _)] ⟨rfl, rfl, rfl, rfl, trivial⟩ ?_
  refine go_seq ?_
  refine go_region rfl ?_
  refine go_pure0 Tk rfl rfl rfl ?_
  refine go_pure0 Tk rfl rfl rfl ?_
  refine go_pure0 Tk rfl rfl rfl ?_
  refine go_nil ?_
  refine go_env [(0, _), (2, _), (4, _), (8, _), (9, _), (10, _)] ⟨rfl, rfl, rfl, rfl, rfl, rfl, trivial⟩ ?_
  refine go_seq ?_
  refine go_block ?_
  refine go_loop' (X := Nat × Nat) (fun x => [(9, .int .i64 (x.1 : Int)), (10, .int .i64 (x.2 : Int))]) [(0, _), (2, _), (4, _), (8, _)] (fun _ => []) (fun x => x.1 ≤ x.2 ∧ x.2 ≤ l.length ∧ (∀ y ∈ l.take x.1, cF y q < 0) ∧ ∀ y ∈ l.drop x.2, ¬ cF y q < 0) (fun x => x.2 - x.1) ((0, l.length)) ⟨rfl, rfl, rfl, rfl, rfl, rfl, trivial⟩ (by repeat constructor) ⟨by omega, by omega, by simp, by simp⟩ ?_
  intro ⟨i, j⟩ ⟨hij, hj, hlo, hhi⟩
  simp only at hij hj hlo hhi ⊢
  refine go_seq ?_
  refine go_seq ?_
  refine go_region rfl ?_
  refine go_pure0 Tk rfl rfl rfl ?_
  refine go_pure0 Tk rfl rfl rfl ?_
  refine go_pure0 Tk rfl rfl rfl ?_
  refine go_nil ?_
  refine go_env [(0, _), (2, _), (4, _), (8, _), (9, _), (10, _), (17, _)] ⟨rfl, rfl, rfl, rfl, rfl, rfl, rfl, trivial⟩ ?_
  refine go_condD rfl ?_ ?_
  · intro c1
    refine go_skip ?_
    refine go_block ?_
    refine go_seq ?_
    refine go_region rfl ?_
    refine go_pure0 Tk rfl rfl rfl ?_
    refine go_pure0 Tk rfl rfl rfl ?_
    refine go_pure0 Tk rfl rfl rfl ?_
    refine go_i64 20 rfl (by omega) (by omega) ?_
    refine go_pure0 Tk rfl rfl rfl ?_
    refine go_re 21 (.int .u64 ((i + j : Nat) : Int)) (by show some (Value.int _ _) = _; rw [wrap_u64 (by omega)]; rfl) ?_
    refine go_pure0 Tk rfl rfl rfl ?_
    refine go_re 22 (.int .u64 (((i + j) / 2 : Nat) : Int)) (by show some (Value.int _ _) = _; rw [← half]) ?_
    refine go_pure0 Tk rfl rfl rfl ?_
    refine go_i64 23 rfl (by omega) (by omega) ?_
    obtain ⟨h, hh⟩ : ∃ h, h = (i + j) / 2 := ⟨_, rfl⟩
    rw [← hh]
    have hih : i ≤ h ∧ h < j := by omega
    refine go_pure0 Tk rfl rfl rfl ?_
    refine go_nil ?_
    refine go_env [(0, _), (2, _), (4, _), (8, _), (9, _), (10, _), (11, _)] ⟨rfl, rfl, rfl, rfl, rfl, rfl, rfl, trivial⟩ ?_
    refine go_seq ?_
    refine go_ol_open (xs := l) (by repeat constructor) (by omega) (fun b0 cs cur hA h1 h2 h3 h4 h5 => ?_); cases hA
    refine go_rps_at (by repeat constructor) (h) (List.getElem?_eq_getElem (by omega)) (fun ds d1 d2 => ?_)
    refine go_rp_fa' (by repeat constructor) (fun FA fc hd => ?_); subst hd
    refine go_draw'  [4, 5] (SL.pre [(1, 0), (1, 1), (1, 2), (1, 3), (2, 4), (2, 5), (0, 6), (1, 7)] .nil) mixed rfl (by kernel_rfl) ?_
    refine go_pure1 Tk rfl rfl rfl ?_
    refine go_pure1 Tk rfl rfl rfl ?_
    refine go_pure1 Tk rfl rfl rfl ?_
    refine go_val1 rfl (idx_val Tk rfl rfl rfl rfl rfl (by omega)) rfl ?_
    refine go_val2 rfl (load_val Tk rfl rfl rfl (at_row 0 (by repeat constructor) h2 d2 rfl) rfl) (by repeat constructor) (by repeat constructor) rfl ?_
    refine go_val2 rfl (load_val Tk rfl rfl rfl (by first | exact at_pt (by repeat constructor) (by rfl) | exact at_cl 0 (by repeat constructor) (by rfl) | exact at_cl 1 (by repeat constructor) (by rfl) | exact at_cl 2 (by repeat constructor) (by rfl) | exact at_cl 3 (by repeat constructor) (by rfl) | exact at_cl 4 (by repeat constructor) (by rfl) | exact at_cl 5 (by repeat constructor) (by rfl) | exact at_cl 6 (by repeat constructor) (by rfl) | exact at_cl 7 (by repeat constructor) (by rfl)) (by rfl)) (by repeat constructor) (by repeat constructor) rfl ?_
    refine go_call (atomsCompare _ _ _ _ _ _ _ _) rfl rfl (by rfl) rfl (by repeat constructor) (by repeat constructor) (fun h => nomatch h) ?_
    rintro _ _ _ ⟨rfl, rfl, rfl⟩
    refine go_pure1 Tk rfl rfl rfl ?_
    refine go_nil ?_
    refine go_ol_close l (by repeat constructor) (by repeat constructor) h1 h2 h3 h4 ?_
    refine go_env [(0, _), (2, _), (4, _), (8, _), (9, _), (10, _), (11, _), (31, _)] ⟨rfl, rfl, rfl, rfl, rfl, rfl, rfl, rfl, trivial⟩ ?_
    refine go_condD rfl ?_ ?_
    · intro c2
      refine go_region rfl ?_
      refine go_pure0 Tk rfl rfl rfl ?_
      refine go_pure0 Tk rfl rfl rfl ?_
      refine go_i64 33 rfl (by omega) (by omega) ?_
      refine go_pure0 Tk rfl rfl rfl ?_
      refine go_nil ?_
      refine go_env [(0, _), (2, _), (4, _), (8, _), (9, _), (10, _)] ⟨rfl, rfl, rfl, rfl, rfl, rfl, trivial⟩ ?_
      refine go_blk ?_
      refine go_back (h + 1, j) ⟨rfl, rfl, rfl, rfl, rfl, rfl, trivial⟩ (by repeat constructor) (by repeat constructor) ⟨by show h + 1 ≤ j; omega, hj, rises_take hr (by omega) c2, hhi⟩ (by show j - (h + 1) < j - i; omega)
    · intro c2
      refine go_region rfl ?_
      refine go_pure0 Tk rfl rfl rfl ?_
      refine go_pure0 Tk rfl rfl rfl ?_
      refine go_nil ?_
      refine go_env [(0, _), (2, _), (4, _), (8, _), (9, _), (10, _)] ⟨rfl, rfl, rfl, rfl, rfl, rfl, trivial⟩ ?_
      refine go_blk ?_
      refine go_back (i, h) ⟨rfl, rfl, rfl, rfl, rfl, rfl, trivial⟩ (by repeat constructor) (by repeat constructor) ⟨by show i ≤ h; omega, by show h ≤ _; omega, hlo, rises_drop hr (by omega) c2⟩ (by show h - i < j - i; omega)
  · intro c1
    refine go_exit rfl ?_
    refine go_seq ?_
    by_cases hin : i < l.length
    · skip
      refine go_ol_open (xs := l) (by repeat constructor) (by omega) (fun b0 cs cur hA h1 h2 h3 h4 h5 => ?_); cases hA
      refine go_rps_at (by repeat constructor) (i) (List.getElem?_eq_getElem (by omega)) (fun ds d1 d2 => ?_)
      refine go_rp_fa' (by repeat constructor) (fun FA fc hd => ?_); subst hd
      refine go_draw'  [9, 10] (SL.pre [(1, 0), (1, 1), (1, 2), (1, 3), (1, 4), (1, 5), (1, 6), (1, 7), (1, 8), (2, 9), (2, 10), (0, 11), (1, 12), (1, 13), (1, 14), (1, 15)] .nil) mixed rfl (by kernel_rfl) ?_
      refine go_pure1 Tk rfl rfl rfl ?_
      refine go_pure1 Tk rfl rfl rfl ?_
      refine go_pure1 Tk rfl rfl rfl ?_
      refine go_pure1 Tk rfl rfl rfl ?_
      refine go_re 38 (.bool true) (by show some (Value.bool (decide _)) = _; rw [decide_eq_true (by omega)]) ?_
      refine go_pure1 Tk rfl rfl rfl ?_
      refine go_pure1 Tk rfl rfl rfl ?_
      refine go_pure1 Tk rfl rfl rfl ?_
      refine go_pure1 Tk rfl rfl rfl ?_
      refine go_val1 rfl (idx_val Tk rfl rfl rfl rfl rfl (by omega)) rfl ?_
      refine go_val2 rfl (load_val Tk rfl rfl rfl (at_row 0 (by repeat constructor) h2 d2 rfl) rfl) (by repeat constructor) (by repeat constructor) rfl ?_
      refine go_val2 rfl (load_val Tk rfl rfl rfl (by first | exact at_pt (by repeat constructor) (by rfl) | exact at_cl 0 (by repeat constructor) (by rfl) | exact at_cl 1 (by repeat constructor) (by rfl) | exact at_cl 2 (by repeat constructor) (by rfl) | exact at_cl 3 (by repeat constructor) (by rfl) | exact at_cl 4 (by repeat constructor) (by rfl) | exact at_cl 5 (by repeat constructor) (by rfl) | exact at_cl 6 (by repeat constructor) (by rfl) | exact at_cl 7 (by repeat constructor) (by rfl)) (by rfl)) (by repeat constructor) (by repeat constructor) rfl ?_
      refine go_call (atomsCompare _ _ _ _ _ _ _ _) rfl rfl (by rfl) rfl (by repeat constructor) (by repeat constructor) (fun h => nomatch h) ?_
      rintro _ _ _ ⟨rfl, rfl, rfl⟩
      refine go_pure1 Tk rfl rfl rfl ?_
      refine go_pure1 Tk rfl rfl rfl ?_
      refine go_pure1 Tk rfl rfl rfl ?_
      refine go_pure1 Tk rfl rfl rfl ?_
      refine go_nil ?_
      refine go_ol_close l (by repeat constructor) (by repeat constructor) h1 h2 h3 h4 ?_
      refine go_env [(6, _), (7, _)] ⟨rfl, rfl, trivial⟩ ?_
      refine go_ret ⟨rfl, rfl⟩ _ _ (fun a w hp ho hf hs => res2 (by rfl) (.tmp rfl) (.tmp rfl) a w hp ho hf hs) ⟨by rw [bin_yes hr hin (by omega) hlo (by have := hhi; rwa [show j = i from by omega] at this)], rfl, rfl⟩ (by repeat constructor) (by repeat constructor)
    · skip
      refine go_draw'  [9, 10] (SL.pre [(1, 0), (1, 1), (1, 2), (1, 3), (1, 4), (1, 5), (1, 6), (1, 7), (1, 8), (2, 9), (2, 10), (0, 11), (1, 12), (1, 13), (1, 14), (1, 15)] .nil) mixed rfl (by kernel_rfl) ?_
      refine go_pure1 Tk rfl rfl rfl ?_
      refine go_pure1 Tk rfl rfl rfl ?_
      refine go_pure1 Tk rfl rfl rfl ?_
      refine go_pure1 Tk rfl rfl rfl ?_
      refine go_re 38 (.bool false) (by show some (Value.bool (decide _)) = _; rw [decide_eq_false (by omega)]) ?_
      refine go_pure1 Tk rfl rfl rfl ?_
      refine go_skip1 rfl rfl ?_
      refine go_skip1 rfl rfl ?_
      refine go_skip1 rfl rfl ?_
      refine go_skip1 rfl rfl ?_
      refine go_skip2 rfl (by repeat constructor) (by repeat constructor) rfl ?_
      refine go_skip2 rfl (by repeat constructor) (by repeat constructor) rfl ?_
      refine go_skip0 rfl rfl ?_
      refine go_skip1 rfl rfl ?_
      refine go_pure1 Tk rfl rfl rfl ?_
      refine go_pure1 Tk rfl rfl rfl ?_
      refine go_pure1 Tk rfl rfl rfl ?_
      refine go_nil ?_
      refine go_env [(6, _), (7, _)] ⟨rfl, rfl, trivial⟩ ?_
      refine go_ret ⟨rfl, rfl⟩ _ _ (fun a w hp ho hf hs => res2 (by rfl) (.tmp rfl) (.tmp rfl) a w hp ho hf hs) ⟨by rw [bin_no hr (by omega) hlo], rfl, rfl⟩ (by repeat constructor) (by repeat constructor)

end Go.Proofs.Ytdkfpgdfjnaciaa.SL
