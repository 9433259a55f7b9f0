/- Contracts of functions of the program (Refcache): what each call comes to, for the laws' proofs. -/
import Derived.Test.YtdkfpgdfjnaciaaD2
import Derived.Test.YtdkfpgdfjnaciaaCompare
set_option linter.unusedVariables false
set_option linter.unusedSimpArgs false
namespace Go.Proofs.Ytdkfpgdfjnaciaa.SL
open Go 

/-- The document's cache in memory. -/
def rch (b : Nat) (R : Int) (l : List En) : OA := OA.ex fun A : Option Addr => OA.ex fun c : Nat => OA.pa (sl tRe A c l) (pt b 42 [.int .i64 R, .slice A (l).length c])
theorem go_rch {C : Ctx} {k : List It} {E : Env} {Ps : List PA} {Os : List OA} {b : Nat} {R : Int} {l : List En} {rr : List OA} (h : Rem (rch b R l) Os rr) (g : ∀ (A : Option Addr) (c : Nat), Go C k E (sl tRe A c l :: Ps) (pt b 42 [.int .i64 R, .slice A (l).length c] :: rr)) : Go C k E Ps Os :=
  go_oex h fun A => go_oex .here fun c => go_opa .here (g A c)
theorem rch_mk {b : Nat} {R : Int} {A : Option Addr} {c : Nat} {l : List En} {hp h : Heap} (hs : ∀ p, p ∈ [sl tRe A c l] → p.p hp) (q : Sep hp [pt b 42 [.int .i64 R, .slice A (l).length c]] h) : (rch b R l).p hp h := by
  obtain ⟨h1, h2, a, _, _, d, _⟩ := q
  exact ⟨A, c, hs _ (.head _), a _ _ d⟩

set_option maxHeartbeats 2000000 in
set_option maxRecDepth 20000 in
theorem refPlace (b : Nat) (R : Int) (A : Option Addr) (c : Nat) (l : List En) (q : Fa) (QA : Option Addr) (qc : Nat) :
    Spec Try.prog 66 #[.pointer (some ⟨b, 0, none⟩), .agg #[.int .u32 q.p, .slice QA q.a.length qc]] [sl tU QA qc q.a, sl tRe A c l] [pt b 42 [.int .i64 R, .slice A (l).length c]] (fun v Ps' Os' => v = .int .i64 (plc q l) ∧ Ps' = [] ∧ Os' = [pt b 42 [.int .i64 R, .slice A (l).length c]]) := by
  refine spec_of (fn := Try.f66) (args := [.pointer (some ⟨b, 0, none⟩), .agg #[.int .u32 q.p, .slice QA q.a.length qc]]) 27 Try.func66 rfl (by kernel_rfl) Try.ntmps66 (Nat.le_of_ble_eq_true rfl) (fun w0 hp0 hf0 => ?_)
  refine go_seq ?_
  refine go_len (xs := l) (by repeat constructor) (fun l0 m0 => ?_)
  refine go_region ?_
  refine go_box Tk rfl rfl rfl rfl (by rfl) rfl rfl (fun h => nomatch h) ?_
  intro b1
  refine go_pure0 Tk rfl rfl rfl ?_
  refine go_nil ?_
  refine go_env [(0, _), (3, _)] ⟨rfl, rfl, trivial⟩ ?_
  refine go_seq ?_
  refine go_seq ?_
  refine go_region ?_
  refine go_pure0 Tk rfl rfl rfl ?_
  refine go_nil ?_
  refine go_env [(0, _), (3, _), (5, _)] ⟨rfl, rfl, rfl, trivial⟩ ?_
  refine go_block ?_
  refine go_loop' (X := Nat) (fun k => [(5, .int .i64 (k : Int))]) [(0, _), (3, _)] (fun _ => []) (fun k => k ≤ l.length ∧ ∀ x ∈ l.take k, ¬ x.1 = q) (fun k => l.length - k) (0) ⟨rfl, rfl, rfl, trivial⟩ (by repeat constructor) ⟨by omega, by simp⟩ ?_
  intro k ⟨hk, hz⟩
  refine go_seq ?_
  refine go_seq ?_
  refine go_region ?_
  refine go_pure0 Tk rfl rfl rfl ?_
  refine go_pure0 Tk rfl rfl rfl ?_
  refine go_pure0 Tk rfl rfl rfl ?_
  refine go_pure0 Tk rfl rfl rfl ?_
  refine go_val0 rfl (load_val Tk rfl rfl rfl (by first | exact at_pt (by repeat constructor) (by rfl) | exact at_cl 0 (by repeat constructor) (by rfl) | exact at_cl 1 (by repeat constructor) (by rfl) | exact at_cl 2 (by repeat constructor) (by rfl) | exact at_cl 3 (by repeat constructor) (by rfl) | exact at_cl 4 (by repeat constructor) (by rfl) | exact at_cl 5 (by repeat constructor) (by rfl) | exact at_cl 6 (by repeat constructor) (by rfl) | exact at_cl 7 (by repeat constructor) (by rfl)) (by rfl)) rfl ?_
  refine go_pure0 Tk rfl rfl rfl ?_
  refine go_pure0 Tk rfl rfl rfl ?_
  refine go_nil ?_
  refine go_env [(0, _), (3, _), (5, _), (12, _)] ⟨rfl, rfl, rfl, rfl, trivial⟩ ?_
  refine go_condD rfl ?_ ?_
  · intro c1
    refine go_skip ?_
    refine go_seq ?_
    refine go_block ?_
    refine go_seq ?_
    refine go_elem_re (xs := l) (by repeat constructor) k (List.getElem?_eq_getElem (by omega)) (fun b0 o0 A' c' hA => ?_); cases hA
    refine go_draw'  [3, 7, 8] (pre [(1, 0), (1, 1), (1, 2), (1, 4), (2, 3), (1, 5), (1, 6), (2, 7), (2, 8), (0, 9), (1, 10)] .nil) mixed (by kernel_rfl) ?_
    refine go_pure1 Tk rfl rfl rfl ?_
    refine go_pure1 Tk rfl rfl rfl ?_
    refine go_pure1 Tk rfl rfl rfl ?_
    refine go_pure1 Tk rfl rfl rfl ?_
    refine go_val2 rfl (load_val Tk rfl rfl rfl (by first | exact at_pt (by repeat constructor) (by rfl) | exact at_cl 0 (by repeat constructor) (by rfl) | exact at_cl 1 (by repeat constructor) (by rfl) | exact at_cl 2 (by repeat constructor) (by rfl) | exact at_cl 3 (by repeat constructor) (by rfl) | exact at_cl 4 (by repeat constructor) (by rfl) | exact at_cl 5 (by repeat constructor) (by rfl) | exact at_cl 6 (by repeat constructor) (by rfl) | exact at_cl 7 (by repeat constructor) (by rfl)) (by rfl)) (by repeat constructor) (by repeat constructor) rfl ?_
    refine go_val1 rfl (idx_val Tk rfl rfl rfl rfl rfl (by omega)) rfl ?_
    refine go_pure1 Tk rfl rfl rfl ?_
    refine go_val2 rfl (load_val Tk rfl rfl rfl (by first | exact at_pt (by repeat constructor) (by rfl) | exact at_cl 0 (by repeat constructor) (by rfl) | exact at_cl 1 (by repeat constructor) (by rfl) | exact at_cl 2 (by repeat constructor) (by rfl) | exact at_cl 3 (by repeat constructor) (by rfl) | exact at_cl 4 (by repeat constructor) (by rfl) | exact at_cl 5 (by repeat constructor) (by rfl) | exact at_cl 6 (by repeat constructor) (by rfl) | exact at_cl 7 (by repeat constructor) (by rfl)) (by rfl)) (by repeat constructor) (by repeat constructor) rfl ?_
    refine go_val2 rfl (load_val Tk rfl rfl rfl (by first | exact at_pt (by repeat constructor) (by rfl) | exact at_cl 0 (by repeat constructor) (by rfl) | exact at_cl 1 (by repeat constructor) (by rfl) | exact at_cl 2 (by repeat constructor) (by rfl) | exact at_cl 3 (by repeat constructor) (by rfl) | exact at_cl 4 (by repeat constructor) (by rfl) | exact at_cl 5 (by repeat constructor) (by rfl) | exact at_cl 6 (by repeat constructor) (by rfl) | exact at_cl 7 (by repeat constructor) (by rfl)) (by rfl)) (by repeat constructor) (by repeat constructor) rfl ?_
    refine go_call (refCompare _ _ _ _ _ _ _ _) rfl rfl (by rfl) rfl (by repeat constructor) (by repeat constructor) (fun h => nomatch h) ?_
    rintro _ _ _ ⟨rfl, rfl, rfl⟩
    refine go_pure1 Tk rfl rfl rfl ?_
    refine go_nil ?_
    refine go_env [(0, _), (3, _), (5, _), (25, _)] ⟨rfl, rfl, rfl, rfl, trivial⟩ ?_
    refine go_condD rfl ?_ ?_
    · intro c2
      refine go_seq ?_
      refine go_region ?_
      refine go_pure0 Tk rfl rfl rfl ?_
      refine go_pure0 Tk rfl rfl rfl ?_
      refine go_nil ?_
      refine go_env [(4, _)] ⟨rfl, trivial⟩ ?_
      refine go_ret _ _ (fun a w hp ho hf hs => res1 (by rfl) (.tmp rfl) a w hp ho hf hs) ⟨congrArg (Value.int .i64) (plc_hit (by omega) hz (cmpF_zero.1 c2)).symm, rfl, rfl⟩ (by repeat constructor) (by repeat constructor)
    · intro c2
      refine go_skip ?_
      refine go_blk ?_
      refine go_region ?_
      refine go_pure0 Tk rfl rfl rfl ?_
      refine go_pure0 Tk rfl rfl rfl ?_
      refine go_pure0 Tk rfl rfl rfl ?_
      refine go_nil ?_
      refine go_i64 5 rfl (by omega) (by omega) ?_
      refine go_back (k + 1) ⟨rfl, rfl, rfl, trivial⟩ (by repeat constructor) (by repeat constructor) (⟨by omega, mem_take_next (by omega) hz (fun e => c2 (cmpF_zero.2 e))⟩) (by omega)
  · intro c1
    refine go_exit rfl ?_
    refine go_seq ?_
    refine go_region ?_
    refine go_pure0 Tk rfl rfl rfl ?_
    refine go_nil ?_
    refine go_env [(4, _)] ⟨rfl, trivial⟩ ?_
    refine go_ret _ _ (fun a w hp ho hf hs => res1 (by rfl) (.tmp rfl) a w hp ho hf hs) ⟨congrArg (Value.int .i64) (plc_none (by rw [List.take_of_length_le (by omega)] at hz; exact hz)).symm, rfl, rfl⟩ (by repeat constructor) (by repeat constructor)

set_option maxHeartbeats 2000000 in
set_option maxRecDepth 20000 in
theorem refGet (b : Nat) (R : Int) (l : List En) (q : Fa) (QA : Option Addr) (qc : Nat) :
    Spec Try.prog 25 #[.pointer (some ⟨b, 0, none⟩), .agg #[.int .u32 q.p, .slice QA q.a.length qc]] [sl tU QA qc q.a] [rch b R l] (fun v Ps' Os' => v = .tuple #[.int .u8 (cget l q).1, .bool (cget l q).2] ∧ Ps' = [] ∧ Os' = [rch b R l]) := by
  refine spec_of (fn := Try.f25) (args := [.pointer (some ⟨b, 0, none⟩), .agg #[.int .u32 q.p, .slice QA q.a.length qc]]) 20 Try.func25 rfl (by kernel_rfl) Try.ntmps25 (Nat.le_of_ble_eq_true rfl) (fun w0 hp0 hf0 => ?_)
  refine go_seq ?_
  refine go_rch (by repeat constructor) (fun A c => ?_)
  refine go_region ?_
  refine go_box Tk rfl rfl rfl rfl (by rfl) rfl rfl (fun h => nomatch h) ?_
  intro b1
  refine go_pure0 Tk rfl rfl rfl ?_
  refine go_pure0 Tk rfl rfl rfl ?_
  refine go_nil ?_
  refine go_env [(0, _), (3, _)] ⟨rfl, rfl, trivial⟩ ?_
  refine go_seq ?_
  refine go_region ?_
  refine go_pure0 Tk rfl rfl rfl ?_
  refine go_val0 rfl (load_val Tk rfl rfl rfl (by first | exact at_pt (by repeat constructor) (by rfl) | exact at_cl 0 (by repeat constructor) (by rfl) | exact at_cl 1 (by repeat constructor) (by rfl) | exact at_cl 2 (by repeat constructor) (by rfl) | exact at_cl 3 (by repeat constructor) (by rfl) | exact at_cl 4 (by repeat constructor) (by rfl) | exact at_cl 5 (by repeat constructor) (by rfl) | exact at_cl 6 (by repeat constructor) (by rfl) | exact at_cl 7 (by repeat constructor) (by rfl)) (by rfl)) rfl ?_
  refine go_call (refPlace b R A c l q QA qc) rfl rfl (by rfl) rfl (by repeat constructor) (by repeat constructor) (fun h => nomatch h) ?_
  rintro _ _ _ ⟨rfl, rfl, rfl⟩
  refine go_pure0 Tk rfl rfl rfl ?_
  refine go_nil ?_
  refine go_env [(0, _), (6, _)] ⟨rfl, rfl, trivial⟩ ?_
  refine go_seq ?_
  refine go_seq ?_
  refine go_region ?_
  refine go_pure0 Tk rfl rfl rfl ?_
  refine go_pure0 Tk rfl rfl rfl ?_
  refine go_nil ?_
  refine go_env [(0, _), (6, _), (11, _)] ⟨rfl, rfl, rfl, trivial⟩ ?_
  refine go_condD rfl ?_ ?_
  · intro g1
    obtain ⟨h1, h2⟩ | ⟨k, hk, h1, h2, h3⟩ := plc_cases q l
    rotate_left
    · omega
    refine go_foldp [sl tRe A c (l)] [pt b 42 [.int .i64 R, .slice A (l).length c]] (rch b R (l)) (by repeat constructor) (by repeat constructor) (fun _ _ hs q => rch_mk hs q) ?_
    refine go_seq ?_
    refine go_region ?_
    refine go_pure0 Tk rfl rfl rfl ?_
    refine go_pure0 Tk rfl rfl rfl ?_
    refine go_nil ?_
    refine go_env [(4, _), (5, _)] ⟨rfl, rfl, trivial⟩ ?_
    refine go_ret _ _ (fun a w hp ho hf hs => res2 (by rfl) (.tmp rfl) (.tmp rfl) a w hp ho hf hs) ⟨by rw [cget_none h2], rfl, rfl⟩ (by repeat constructor) (by repeat constructor)
  · intro g1
    obtain ⟨h1, -⟩ | ⟨k, hk, h1, -, hf⟩ := plc_cases q l
    · omega
    rw [h1]
    refine go_skip ?_
    refine go_seq ?_
    refine go_elem_re (xs := l) (by repeat constructor) k (List.getElem?_eq_getElem hk) (fun b0 o0 A' c' hA => ?_); cases hA
    refine go_region ?_
    refine go_pure0 Tk rfl rfl rfl ?_
    refine go_pure0 Tk rfl rfl rfl ?_
    refine go_pure0 Tk rfl rfl rfl ?_
    refine go_val0 rfl (load_val Tk rfl rfl rfl (by first | exact at_pt (by repeat constructor) (by rfl) | exact at_cl 0 (by repeat constructor) (by rfl) | exact at_cl 1 (by repeat constructor) (by rfl) | exact at_cl 2 (by repeat constructor) (by rfl) | exact at_cl 3 (by repeat constructor) (by rfl) | exact at_cl 4 (by repeat constructor) (by rfl) | exact at_cl 5 (by repeat constructor) (by rfl) | exact at_cl 6 (by repeat constructor) (by rfl) | exact at_cl 7 (by repeat constructor) (by rfl)) (by rfl)) rfl ?_
    refine go_pure0 Tk rfl rfl rfl ?_
    refine go_val0 rfl (idx_val Tk rfl rfl rfl rfl rfl (by omega)) rfl ?_
    refine go_pure0 Tk rfl rfl rfl ?_
    refine go_val0 rfl (load_val Tk rfl rfl rfl (by first | exact at_pt (by repeat constructor) (by rfl) | exact at_cl 0 (by repeat constructor) (by rfl) | exact at_cl 1 (by repeat constructor) (by rfl) | exact at_cl 2 (by repeat constructor) (by rfl) | exact at_cl 3 (by repeat constructor) (by rfl) | exact at_cl 4 (by repeat constructor) (by rfl) | exact at_cl 5 (by repeat constructor) (by rfl) | exact at_cl 6 (by repeat constructor) (by rfl) | exact at_cl 7 (by repeat constructor) (by rfl)) (by rfl)) rfl ?_
    refine go_pure0 Tk rfl rfl rfl ?_
    refine go_pure0 Tk rfl rfl rfl ?_
    refine go_nil ?_
    refine go_foldp [sl tRe _ c (l)] [pt b 42 [.int .i64 R, .slice _ (l).length c]] (rch b R (l)) (by repeat constructor) (by repeat constructor) (fun _ _ hs q => rch_mk hs q) ?_
    refine go_env [(4, _), (5, _)] ⟨rfl, rfl, trivial⟩ ?_
    refine go_ret _ _ (fun a w hp ho hf hs => res2 (by rfl) (.tmp rfl) (.tmp rfl) a w hp ho hf hs) ⟨by rw [cget_hit hf], rfl, rfl⟩ (by repeat constructor) (by repeat constructor)

set_option maxHeartbeats 2000000 in
set_option maxRecDepth 20000 in
theorem refPut (b : Nat) (R : Int) (l : List En) (q : Fa) (QA : Option Addr) (qc : Nat) (v : Int) (hl : l.length ≤ 100000) (hn : q.a.length ≤ 100000) :
    Spec Try.prog 24 #[.pointer (some ⟨b, 0, none⟩), .agg #[.int .u32 q.p, .slice QA q.a.length qc], .int .u8 v] [sl tU QA qc q.a] [rch b R l] (fun w Ps' Os' => w = .tuple #[] ∧ Ps' = [] ∧ Os' = [rch b R (cput R l q v)]) := by
  refine spec_of (fn := Try.f24) (args := [.pointer (some ⟨b, 0, none⟩), .agg #[.int .u32 q.p, .slice QA q.a.length qc], .int .u8 v]) 65 Try.func24 rfl (by kernel_rfl) Try.ntmps24 (Nat.le_of_ble_eq_true rfl) (fun w0 hp0 hf0 => ?_)
  refine go_seq ?_
  refine go_rch (by repeat constructor) (fun A c => ?_)
  refine go_len (xs := l) (by repeat constructor) (fun l0 m0 => ?_)
  refine go_len (xs := q.a) (by repeat constructor) (fun l1 m1 => ?_)
  refine go_region ?_
  refine go_box Tk rfl rfl rfl rfl (by rfl) rfl rfl (fun h => nomatch h) ?_
  intro b1
  refine go_nil ?_
  refine go_env [(0, _), (2, _), (4, _)] ⟨rfl, rfl, rfl, trivial⟩ ?_
  refine go_seq ?_
  refine go_region ?_
  refine go_pure0 Tk rfl rfl rfl ?_
  refine go_nil ?_
  refine go_env [(0, _), (2, _), (4, _), (6, _)] ⟨rfl, rfl, rfl, rfl, trivial⟩ ?_
  refine go_seq ?_
  refine go_region ?_
  refine go_pure0 Tk rfl rfl rfl ?_
  refine go_val0 rfl (load_val Tk rfl rfl rfl (by first | exact at_pt (by repeat constructor) (by rfl) | exact at_cl 0 (by repeat constructor) (by rfl) | exact at_cl 1 (by repeat constructor) (by rfl) | exact at_cl 2 (by repeat constructor) (by rfl) | exact at_cl 3 (by repeat constructor) (by rfl) | exact at_cl 4 (by repeat constructor) (by rfl) | exact at_cl 5 (by repeat constructor) (by rfl) | exact at_cl 6 (by repeat constructor) (by rfl) | exact at_cl 7 (by repeat constructor) (by rfl)) (by rfl)) rfl ?_
  refine go_call (refPlace b R A c l q QA qc) rfl rfl (by rfl) rfl (by repeat constructor) (by repeat constructor) (fun h => nomatch h) ?_
  rintro _ _ _ ⟨rfl, rfl, rfl⟩
  refine go_pure0 Tk rfl rfl rfl ?_
  refine go_nil ?_
  refine go_env [(0, _), (2, _), (4, _), (6, _), (7, _)] ⟨rfl, rfl, rfl, rfl, rfl, trivial⟩ ?_
  refine go_seq ?_
  refine go_seq ?_
  refine go_region ?_
  refine go_pure0 Tk rfl rfl rfl ?_
  refine go_own_nil tRe 47 none ?_
  refine go_re 6 (.slice none (delTo l (plc q l) 0).length 0) (by rw [delTo_zero]; rfl) ?_
  rw [← delTo_zero l (plc q l)]
  refine go_nil ?_
  refine go_env [(0, _), (2, _), (4, _), (6, _), (7, _), (8, _)] ⟨rfl, rfl, rfl, rfl, rfl, rfl, trivial⟩ ?_
  refine go_block ?_
  refine go_loop' (X := Nat × Option Addr × Nat) (fun x => [(6, .slice x.2.1 (delTo l (plc q l) x.1).length x.2.2), (8, .int .i64 (x.1 : Int))]) [(0, _), (2, _), (4, _), (7, _)] (fun x => [ol tRe 47 x.2.1 x.2.2 (delTo l (plc q l) x.1)]) (fun x => x.1 ≤ l.length) (fun x => l.length - x.1) ((0, none, 0)) ⟨rfl, rfl, rfl, rfl, rfl, rfl, trivial⟩ (by repeat constructor) (by omega) ?_
  intro ⟨k, A', c'⟩ hk
  simp only at hk ⊢
  refine go_seq ?_
  refine go_seq ?_
  refine go_region ?_
  refine go_pure0 Tk rfl rfl rfl ?_
  refine go_pure0 Tk rfl rfl rfl ?_
  refine go_pure0 Tk rfl rfl rfl ?_
  refine go_pure0 Tk rfl rfl rfl ?_
  refine go_val0 rfl (load_val Tk rfl rfl rfl (by first | exact at_pt (by repeat constructor) (by rfl) | exact at_cl 0 (by repeat constructor) (by rfl) | exact at_cl 1 (by repeat constructor) (by rfl) | exact at_cl 2 (by repeat constructor) (by rfl) | exact at_cl 3 (by repeat constructor) (by rfl) | exact at_cl 4 (by repeat constructor) (by rfl) | exact at_cl 5 (by repeat constructor) (by rfl) | exact at_cl 6 (by repeat constructor) (by rfl) | exact at_cl 7 (by repeat constructor) (by rfl)) (by rfl)) rfl ?_
  refine go_pure0 Tk rfl rfl rfl ?_
  refine go_pure0 Tk rfl rfl rfl ?_
  refine go_nil ?_
  refine go_env [(0, _), (2, _), (4, _), (6, _), (7, _), (8, _), (19, _)] ⟨rfl, rfl, rfl, rfl, rfl, rfl, rfl, trivial⟩ ?_
  refine go_condD rfl ?_ ?_
  · intro c1
    refine go_skip ?_
    refine go_seq ?_
    refine go_block ?_
    refine go_seq ?_
    refine go_region ?_
    refine go_pure0 Tk rfl rfl rfl ?_
    refine go_pure0 Tk rfl rfl rfl ?_
    refine go_pure0 Tk rfl rfl rfl ?_
    refine go_nil ?_
    refine go_env [(0, _), (2, _), (4, _), (6, _), (7, _), (8, _), (24, _)] ⟨rfl, rfl, rfl, rfl, rfl, rfl, rfl, trivial⟩ ?_
    refine go_condN rfl ?_ ?_
    · intro c2
      refine go_elem_re (xs := l) (by repeat constructor) k (List.getElem?_eq_getElem (by omega)) (fun b0 o0 A2 c2 hA => ?_); cases hA
      refine go_region ?_
      refine go_pure0 Tk rfl rfl rfl ?_
      refine go_pure0 Tk rfl rfl rfl ?_
      refine go_pure0 Tk rfl rfl rfl ?_
      refine go_pure0 Tk rfl rfl rfl ?_
      refine go_val0 rfl (load_val Tk rfl rfl rfl (by first | exact at_pt (by repeat constructor) (by rfl) | exact at_cl 0 (by repeat constructor) (by rfl) | exact at_cl 1 (by repeat constructor) (by rfl) | exact at_cl 2 (by repeat constructor) (by rfl) | exact at_cl 3 (by repeat constructor) (by rfl) | exact at_cl 4 (by repeat constructor) (by rfl) | exact at_cl 5 (by repeat constructor) (by rfl) | exact at_cl 6 (by repeat constructor) (by rfl) | exact at_cl 7 (by repeat constructor) (by rfl)) (by rfl)) rfl ?_
      refine go_pure0 Tk rfl rfl rfl ?_
      refine go_val0 rfl (idx_val Tk rfl rfl rfl rfl rfl (by omega)) rfl ?_
      refine go_val0 rfl (load_val Tk rfl rfl rfl (by first | exact at_pt (by repeat constructor) (by rfl) | exact at_cl 0 (by repeat constructor) (by rfl) | exact at_cl 1 (by repeat constructor) (by rfl) | exact at_cl 2 (by repeat constructor) (by rfl) | exact at_cl 3 (by repeat constructor) (by rfl) | exact at_cl 4 (by repeat constructor) (by rfl) | exact at_cl 5 (by repeat constructor) (by rfl) | exact at_cl 6 (by repeat constructor) (by rfl) | exact at_cl 7 (by repeat constructor) (by rfl)) (by rfl)) rfl ?_
      refine go_bslice Tk rfl rfl rfl rfl rfl rfl rfl rfl (fun h => nomatch h) ?_
      intro b2
      have hdl := delTo_len l (plc q l) k
      refine go_append1 (T := tRe) Tk l[k] rfl rfl rfl rfl rfl rfl rfl rfl rfl (by repeat constructor) (by repeat constructor) rfl (ent_re (by repeat constructor)) (by omega) (fun h => nomatch h) ?_
      intro A3 c3
      rw [← delTo_next (by omega) (by assumption)]
      refine go_pure0 Tk rfl rfl rfl ?_
      refine go_nil ?_
      refine go_env [(0, _), (2, _), (4, _), (6, _), (7, _), (8, _)] ⟨rfl, rfl, rfl, rfl, rfl, rfl, trivial⟩ ?_
      refine go_blk ?_
      refine go_region ?_
      refine go_pure0 Tk rfl rfl rfl ?_
      refine go_pure0 Tk rfl rfl rfl ?_
      refine go_pure0 Tk rfl rfl rfl ?_
      refine go_nil ?_
      refine go_i64 8 rfl (by omega) (by omega) ?_
      refine go_back (k + 1, _, _) ⟨rfl, rfl, rfl, rfl, rfl, rfl, trivial⟩ (by repeat constructor) (by repeat constructor) (by show k + 1 ≤ _; omega) (by show l.length - (k + 1) < l.length - k; omega)
    · intro c2
      rw [← delTo_same c2]
      refine go_skip ?_
      refine go_blk ?_
      refine go_region ?_
      refine go_pure0 Tk rfl rfl rfl ?_
      refine go_pure0 Tk rfl rfl rfl ?_
      refine go_pure0 Tk rfl rfl rfl ?_
      refine go_nil ?_
      refine go_i64 8 rfl (by omega) (by omega) ?_
      refine go_back (k + 1, _, _) ⟨rfl, rfl, rfl, rfl, rfl, rfl, trivial⟩ (by repeat constructor) (by repeat constructor) (by show k + 1 ≤ _; omega) (by show l.length - (k + 1) < l.length - k; omega)
  · intro c1
    refine go_exit rfl ?_
    refine go_seq ?_
    rw [delTo_end (by omega)]
    have hdl := delAt_len l (plc q l)
    refine go_region ?_
    refine go_pure0 Tk rfl rfl rfl ?_
    refine go_pure0 Tk rfl rfl rfl ?_
    refine go_val0 rfl (load_val Tk rfl rfl rfl (by first | exact at_pt (by repeat constructor) (by rfl) | exact at_cl 0 (by repeat constructor) (by rfl) | exact at_cl 1 (by repeat constructor) (by rfl) | exact at_cl 2 (by repeat constructor) (by rfl) | exact at_cl 3 (by repeat constructor) (by rfl) | exact at_cl 4 (by repeat constructor) (by rfl) | exact at_cl 5 (by repeat constructor) (by rfl) | exact at_cl 6 (by repeat constructor) (by rfl) | exact at_cl 7 (by repeat constructor) (by rfl)) (by rfl)) rfl ?_
    refine go_val0 rfl (fun a w hp ho hf hs => build_val Tk rfl rfl rfl (by rfl) a w hf) rfl ?_
    refine go_val0 rfl (fun a w hp ho hf hs => build_val Tk rfl rfl rfl (by rfl) a w hf) rfl ?_
    refine go_alloc Tk rfl rfl rfl (by rfl) rfl rfl (fun h => nomatch h) ?_
    intro b3
    refine go_store Tk rfl rfl rfl rfl rfl rfl (by repeat constructor) rfl rfl (by rfl) (fun h => nomatch h) ?_
    refine go_nil ?_
    refine go_env [(0, _), (4, _), (6, _), (9, _)] ⟨rfl, rfl, rfl, rfl, trivial⟩ ?_
    refine go_seq ?_
    refine go_region ?_
    refine go_pure0 Tk rfl rfl rfl ?_
    refine go_pure0 Tk rfl rfl rfl ?_
    refine go_val0 rfl (load_val Tk rfl rfl rfl (by first | exact at_pt (by repeat constructor) (by rfl) | exact at_cl 0 (by repeat constructor) (by rfl) | exact at_cl 1 (by repeat constructor) (by rfl) | exact at_cl 2 (by repeat constructor) (by rfl) | exact at_cl 3 (by repeat constructor) (by rfl) | exact at_cl 4 (by repeat constructor) (by rfl) | exact at_cl 5 (by repeat constructor) (by rfl) | exact at_cl 6 (by repeat constructor) (by rfl) | exact at_cl 7 (by repeat constructor) (by rfl)) (by rfl)) rfl ?_
    refine go_own_nil tU 28 none ?_
    refine go_pure0 Tk rfl rfl rfl ?_
    refine go_val0 rfl (load_val Tk rfl rfl rfl (by first | exact at_pt (by repeat constructor) (by rfl) | exact at_cl 0 (by repeat constructor) (by rfl) | exact at_cl 1 (by repeat constructor) (by rfl) | exact at_cl 2 (by repeat constructor) (by rfl) | exact at_cl 3 (by repeat constructor) (by rfl) | exact at_cl 4 (by repeat constructor) (by rfl) | exact at_cl 5 (by repeat constructor) (by rfl) | exact at_cl 6 (by repeat constructor) (by rfl) | exact at_cl 7 (by repeat constructor) (by rfl)) (by rfl)) rfl ?_
    refine go_appendN (T := tU) (xs := []) (ys := q.a) Tk rfl rfl rfl rfl rfl rfl rfl rfl rfl (by repeat constructor) rfl (by repeat constructor) (by simp; omega) (fun h => nomatch h) ?_
    intro A4 c4
    rw [List.nil_append]
    refine go_freeze_ol (xs := q.a) (by repeat constructor) ?_
    refine go_pure0 Tk rfl rfl rfl ?_
    refine go_pure0 Tk rfl rfl rfl ?_
    refine go_store Tk rfl rfl rfl rfl rfl rfl (by repeat constructor) rfl rfl (by rfl) (fun h => nomatch h) ?_
    refine go_nil ?_
    refine go_env [(0, _), (6, _), (9, _)] ⟨rfl, rfl, rfl, trivial⟩ ?_
    refine go_seq ?_
    refine go_region ?_
    refine go_pure0 Tk rfl rfl rfl ?_
    refine go_val0 rfl (load_val Tk rfl rfl rfl (by first | exact at_pt (by repeat constructor) (by rfl) | exact at_cl 0 (by repeat constructor) (by rfl) | exact at_cl 1 (by repeat constructor) (by rfl) | exact at_cl 2 (by repeat constructor) (by rfl) | exact at_cl 3 (by repeat constructor) (by rfl) | exact at_cl 4 (by repeat constructor) (by rfl) | exact at_cl 5 (by repeat constructor) (by rfl) | exact at_cl 6 (by repeat constructor) (by rfl) | exact at_cl 7 (by repeat constructor) (by rfl)) (by rfl)) rfl ?_
    refine go_bslice Tk rfl rfl rfl rfl rfl rfl rfl rfl (fun h => nomatch h) ?_
    intro b4
    refine go_append1 (T := tRe) Tk (q, v) rfl rfl rfl rfl rfl rfl rfl rfl rfl (by repeat constructor) (by repeat constructor) rfl (ent_re (x := (q, v)) (by repeat constructor)) (by omega) (fun h => nomatch h) ?_
    intro A5 c5
    refine go_freeze_ol (xs := delAt l (plc q l) ++ [(q, v)]) (by repeat constructor) ?_
    refine go_pure0 Tk rfl rfl rfl ?_
    refine go_nil ?_
    refine go_env [(0, _), (6, _)] ⟨rfl, rfl, trivial⟩ ?_
    refine go_seq ?_
    refine go_seq ?_
    refine go_region ?_
    refine go_pure0 Tk rfl rfl rfl ?_
    refine go_pure0 Tk rfl rfl rfl ?_
    refine go_pure0 Tk rfl rfl rfl ?_
    refine go_pure0 Tk rfl rfl rfl ?_
    refine go_pure0 Tk rfl rfl rfl ?_
    refine go_val0 rfl (load_val Tk rfl rfl rfl (by first | exact at_pt (by repeat constructor) (by rfl) | exact at_cl 0 (by repeat constructor) (by rfl) | exact at_cl 1 (by repeat constructor) (by rfl) | exact at_cl 2 (by repeat constructor) (by rfl) | exact at_cl 3 (by repeat constructor) (by rfl) | exact at_cl 4 (by repeat constructor) (by rfl) | exact at_cl 5 (by repeat constructor) (by rfl) | exact at_cl 6 (by repeat constructor) (by rfl) | exact at_cl 7 (by repeat constructor) (by rfl)) (by rfl)) rfl ?_
    refine go_pure0 Tk rfl rfl rfl ?_
    refine go_nil ?_
    refine go_env [(0, _), (6, _), (58, _)] ⟨rfl, rfl, rfl, trivial⟩ ?_
    refine go_condD rfl ?_ ?_
    · intro c3
      refine go_len (xs := delAt l (plc q l) ++ [(q, v)]) (by repeat constructor) (fun l5 m5 => ?_)
      refine go_region ?_
      refine go_pure0 Tk rfl rfl rfl ?_
      refine go_val0 rfl (slice_val Tk rfl rfl rfl rfl (l := 1) (h := (delAt l (plc q l) ++ [(q, v)]).length) (m := c5) (by first | rfl | exact ⟨_, rfl⟩ | exact ⟨rfl, rfl⟩) (by first | rfl | exact ⟨_, rfl⟩ | exact ⟨rfl, rfl⟩) (by first | rfl | exact ⟨_, rfl⟩ | exact ⟨rfl, rfl⟩) (by simp) (by omega) (by omega)) rfl ?_
      refine go_pure0 Tk rfl rfl rfl ?_
      refine go_nil ?_
      refine go_sl (sl tRe A5 c5 (delAt l (plc q l) ++ [(q, v)])) (sl tRe _ _ (cput R l q v)) (by repeat constructor) (fun _ hs => cput_part c3 (Sl.part (l := 1) (h := (delAt l (plc q l) ++ [(q, v)]).length) (m := c5) hs (by simp) (by omega) (by omega) (by omega))) ?_
      rw [cput_part_len c3]
      refine go_env [(0, _), (6, _)] ⟨rfl, rfl, trivial⟩ ?_
      refine go_region ?_
      refine go_pure0 Tk rfl rfl rfl ?_
      refine go_pure0 Tk rfl rfl rfl ?_
      refine go_pure0 Tk rfl rfl rfl ?_
      refine go_pure0 Tk rfl rfl rfl ?_
      refine go_store Tk rfl rfl rfl rfl rfl rfl (by repeat constructor) rfl rfl (by rfl) (fun h => nomatch h) ?_
      refine go_nil ?_
      refine go_foldp [sl tRe _ _ (cput R l q v)] [pt b 42 [.int .i64 R, .slice _ (cput R l q v).length _]] (rch b R (cput R l q v)) (by repeat constructor) (by repeat constructor) (fun _ _ hs q => rch_mk hs q) ?_
      refine go_end _ _ (fun a w hp ho hf hs => res0 (by rfl) a w hp ho hf hs) ⟨rfl, rfl, rfl⟩ (by repeat constructor) (by repeat constructor)
    · intro c3
      rw [← cput_keep c3]
      refine go_skip ?_
      refine go_region ?_
      refine go_pure0 Tk rfl rfl rfl ?_
      refine go_pure0 Tk rfl rfl rfl ?_
      refine go_pure0 Tk rfl rfl rfl ?_
      refine go_pure0 Tk rfl rfl rfl ?_
      refine go_store Tk rfl rfl rfl rfl rfl rfl (by repeat constructor) rfl rfl (by rfl) (fun h => nomatch h) ?_
      refine go_nil ?_
      refine go_foldp [sl tRe _ _ (cput R l q v)] [pt b 42 [.int .i64 R, .slice _ (cput R l q v).length _]] (rch b R (cput R l q v)) (by repeat constructor) (by repeat constructor) (fun _ _ hs q => rch_mk hs q) ?_
      refine go_end _ _ (fun a w hp ho hf hs => res0 (by rfl) a w hp ho hf hs) ⟨rfl, rfl, rfl⟩ (by repeat constructor) (by repeat constructor)

end Go.Proofs.Ytdkfpgdfjnaciaa.SL
