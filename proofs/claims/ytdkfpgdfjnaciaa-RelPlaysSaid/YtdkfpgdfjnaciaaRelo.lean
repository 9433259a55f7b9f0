/- Contracts of functions of the program (Relo): what each call comes to, for the laws' proofs. -/
import Derived.Test.YtdkfpgdfjnaciaaRelr
import Derived.Test.YtdkfpgdfjnaciaaD9
set_option linter.unusedVariables false
set_option linter.unusedSimpArgs false
namespace Go.Proofs.Ytdkfpgdfjnaciaa.SL
open Go 

theorem relPlaceO (b : Nat) (l : List Fa) (q : Fa) (QA : Option Addr) (qc : Nat) (W : OA) (hW : ∀ (hp h1 H : Heap), hp.le H → h1.le H → W.p hp h1 → (sl tU QA qc q.a).p H) (hWf : W.free) (hr : rises l) (hn : l.length ≤ 1000000) : Spec Try.prog 70 #[.pointer (some ⟨b, 0, none⟩), .agg #[.int .u32 q.p, .slice QA q.a.length qc]] [] [relO b l, W] (fun v Ps' Os' => v = .tuple #[.int .i64 (at_ l q : Int), .bool (decide (q ∈ l))] ∧ Ps' = [] ∧ Os' = [relO b l, W]) :=
  (((((relPlaceP b l q QA qc hr hn).less (Ps' := [sl tU QA qc q.a, relP b l]) (by intro p hp; simp only [List.mem_cons, List.not_mem_nil, or_false] at hp ⊢; exact hp.symm)).lend W hW
    (fun v P' O' h => ⟨h.2.1, by rw [h.2.2]; intro B hB; cases hB⟩)).imp (Q' := fun v Ps' Os' => v = .tuple #[.int .i64 (at_ l q : Int), .bool (decide (q ∈ l))] ∧ Ps' = [] ∧ Os' = [W]) fun v P' O' ⟨O2, ⟨h1, _, h3⟩, h4, h5⟩ => ⟨h1, h4, by rw [h5, h3]⟩).lend (relO b l) lend_rel
    (fun v P' O' h => ⟨h.2.1, by rw [h.2.2]; intro B hB; rw [List.mem_singleton.1 hB]; exact hWf⟩)).imp fun v P' O' ⟨O2, ⟨h1, _, h3⟩, h4, h5⟩ => ⟨h1, h4, by rw [h5, h3]⟩
theorem relCopiedO (q : Fa) (QA : Option Addr) (qc : Nat) (W : OA) (hW : ∀ (hp h1 H : Heap), hp.le H → h1.le H → W.p hp h1 → (sl tU QA qc q.a).p H) (hWf : W.free) (hm : q.a.length ≤ 100000) : Spec Try.prog 73 #[.agg #[.int .u32 q.p, .slice QA q.a.length qc]] [] [W] (fun v Ps' Os' => ∃ A' c', v = .agg #[.int .u32 q.p, .slice A' q.a.length c'] ∧ Ps' = [] ∧ Os' = [W, ol tU 28 A' c' q.a]) :=
  ((relCopied q QA qc hm).lend W hW (fun v P' O' ⟨A', c', h⟩ => ⟨h.2.1, by rw [h.2.2]; intro B hB; rw [List.mem_singleton.1 hB]; exact free_ol tU_flat⟩)).imp fun v P' O' ⟨O2, ⟨A', c', h1, _, h3⟩, h4, h5⟩ => ⟨A', c', h1, h4, by rw [h5, h3]⟩

set_option maxHeartbeats 2000000 in
set_option maxRecDepth 20000 in
theorem relPutO (b : Nat) (l : List Fa) (q : Fa) (QA : Option Addr) (qc : Nat) (W : OA) (hW : ∀ (hp h1 H : Heap), hp.le H → h1.le H → W.p hp h1 → (sl tU QA qc q.a).p H) (hWf : W.free) (hr : rises l) (hn : l.length ≤ 1000000) (hm : q.a.length ≤ 100000) :
    Spec Try.prog 38 #[.pointer (some ⟨b, 0, none⟩), .agg #[.int .u32 q.p, .slice QA q.a.length qc]] [] [relO b l, W] (fun v Ps' Os' => v = .bool (!decide (q ∈ l)) ∧ Ps' = [] ∧ Os' = [relO b (fput l q), W]) := by
  refine spec_of (fn := Try.f38) (args := [.pointer (some ⟨b, 0, none⟩), .agg #[.int .u32 q.p, .slice QA q.a.length qc]]) 30 Try.func38 rfl (by kernel_rfl) Try.ntmps38 (Nat.le_of_ble_eq_true rfl) (fun w0 hp0 hf0 => ?_)
  refine go_seq ?_
  refine go_region rfl ?_
  refine go_box Tk rfl rfl rfl rfl (by rfl) rfl rfl (fun h => nomatch h) ?_
  intro b1
  refine go_pure0 Tk rfl rfl rfl ?_
  refine go_nil ?_
  refine go_env [(0, _), (3, _)] ⟨rfl, rfl, trivial⟩ ?_
  refine go_seq ?_
  refine go_region rfl ?_
  refine go_pure0 Tk rfl rfl rfl ?_
  refine go_val0 rfl (load_val Tk rfl rfl rfl (by first | exact at_pt (by repeat constructor) (by rfl) | exact at_cl 0 (by repeat constructor) (by rfl) | exact at_cl 1 (by repeat constructor) (by rfl) | exact at_cl 2 (by repeat constructor) (by rfl) | exact at_cl 3 (by repeat constructor) (by rfl) | exact at_cl 4 (by repeat constructor) (by rfl) | exact at_cl 5 (by repeat constructor) (by rfl) | exact at_cl 6 (by repeat constructor) (by rfl) | exact at_cl 7 (by repeat constructor) (by rfl)) (by rfl)) rfl ?_
  refine go_call (relPlaceO b l q QA qc W hW hWf hr hn) rfl rfl (by rfl) rfl (by repeat constructor) (by repeat constructor) (fun h => nomatch h) ?_
  rintro _ _ _ ⟨rfl, rfl, rfl⟩
  refine go_pure0 Tk rfl rfl rfl ?_
  refine go_pure0 Tk rfl rfl rfl ?_
  refine go_pure0 Tk rfl rfl rfl ?_
  refine go_pure0 Tk rfl rfl rfl ?_
  refine go_pure0 Tk rfl rfl rfl ?_
  refine go_nil ?_
  refine go_env [(0, _), (3, _), (5, _), (6, _)] ⟨rfl, rfl, rfl, rfl, trivial⟩ ?_
  refine go_seq ?_
  refine go_seq ?_
  refine go_region rfl ?_
  refine go_pure0 Tk rfl rfl rfl ?_
  refine go_pure0 Tk rfl rfl rfl ?_
  refine go_known 14 rfl ?_ ?_
  · intro g1
    (try simp only [decide_eq_true_eq, decide_eq_false_iff_not, Bool.not_eq_true', Bool.not_eq_false', Bool.not_eq_eq_eq_not, Bool.not_true, Bool.not_false, Int.not_lt, Int.not_le, beq_iff_eq, beq_eq_false_iff_ne, ne_eq] at g1)
    refine go_skip0 rfl rfl ?_
    refine go_skip0 rfl rfl ?_
    refine go_pure0 Tk rfl rfl rfl ?_
    refine go_nil ?_
    refine go_env [(0, _), (3, _), (5, _), (17, _)] ⟨rfl, rfl, rfl, rfl, trivial⟩ ?_
    refine go_cond_t rfl ?_
    refine go_seq ?_
    refine go_region rfl ?_
    refine go_pure0 Tk rfl rfl rfl ?_
    refine go_nil ?_
    refine go_env [(4, _)] ⟨rfl, trivial⟩ ?_
    refine go_ret ⟨rfl, rfl⟩ _ _ (fun a w hp ho hf hs => res1 (by rfl) (.tmp rfl) a w hp ho hf hs) ⟨by rw [decide_eq_true (by simpa using g1)]; rfl, rfl, by rw [fput_yes (by simpa using g1)]⟩ (by repeat constructor) (by repeat constructor)
  · intro g1
    (try simp only [decide_eq_true_eq, decide_eq_false_iff_not, Bool.not_eq_true', Bool.not_eq_false', Bool.not_eq_eq_eq_not, Bool.not_true, Bool.not_false, Int.not_lt, Int.not_le, beq_iff_eq, beq_eq_false_iff_ne, ne_eq] at g1)
    refine go_pure0 Tk rfl rfl rfl ?_
    refine go_pure0 Tk rfl rfl rfl ?_
    refine go_pure0 Tk rfl rfl rfl ?_
    refine go_nil ?_
    refine go_env [(0, _), (3, _), (5, _), (17, _)] ⟨rfl, rfl, rfl, rfl, trivial⟩ ?_
    refine go_cond_f rfl ?_
    refine go_skip ?_
    refine go_seq ?_
    refine go_rel (b := b) (by repeat constructor) (fun A1 c1 => ?_)
    refine go_draw'  [4, 6] (SL.pre [(1, 0), (1, 1), (1, 2), (1, 3), (1, 5), (2, 4), (2, 6), (0, 7), (0, 8), (0, 9), (1, 10), (1, 11), (0, 12)] .nil) mixed rfl (by kernel_rfl) ?_
    refine go_pure1 Tk rfl rfl rfl ?_
    refine go_pure1 Tk rfl rfl rfl ?_
    refine go_pure1 Tk rfl rfl rfl ?_
    refine go_pure1 Tk rfl rfl rfl ?_
    refine go_pure1 Tk rfl rfl rfl ?_
    refine go_val2 rfl (load_val Tk rfl rfl rfl (by first | exact at_pt (by repeat constructor) (by rfl) | exact at_cl 0 (by repeat constructor) (by rfl) | exact at_cl 1 (by repeat constructor) (by rfl) | exact at_cl 2 (by repeat constructor) (by rfl) | exact at_cl 3 (by repeat constructor) (by rfl) | exact at_cl 4 (by repeat constructor) (by rfl) | exact at_cl 5 (by repeat constructor) (by rfl) | exact at_cl 6 (by repeat constructor) (by rfl) | exact at_cl 7 (by repeat constructor) (by rfl)) (by rfl)) (by repeat constructor) (by repeat constructor) rfl ?_
    refine go_val2 rfl (load_val Tk rfl rfl rfl (by first | exact at_pt (by repeat constructor) (by rfl) | exact at_cl 0 (by repeat constructor) (by rfl) | exact at_cl 1 (by repeat constructor) (by rfl) | exact at_cl 2 (by repeat constructor) (by rfl) | exact at_cl 3 (by repeat constructor) (by rfl) | exact at_cl 4 (by repeat constructor) (by rfl) | exact at_cl 5 (by repeat constructor) (by rfl) | exact at_cl 6 (by repeat constructor) (by rfl) | exact at_cl 7 (by repeat constructor) (by rfl)) (by rfl)) (by repeat constructor) (by repeat constructor) rfl ?_
    refine go_call (relCopiedO q QA qc W hW hWf hm) rfl rfl (by rfl) rfl (by repeat constructor) (by repeat constructor) (fun _ v Ps' Os' hq => by obtain ⟨A', c', rfl, rfl, rfl⟩ := hq; exact satS (by repeat constructor) (by repeat constructor)) ?_
    rintro _ _ _ ⟨A', c', rfl, rfl, rfl⟩
    refine go_freeze_ol (A := A') (xs := q.a) (by repeat constructor) ?_
    refine go_bslice Tk rfl rfl rfl rfl rfl rfl rfl rfl (fun _ _ => satS (by repeat constructor) (by repeat constructor)) ?_
    intro bv
    refine go_call (insertFa A1 c1 l (at_ l q) bv q A' c' (at_le l q) hn) rfl rfl (by rfl) rfl (by repeat constructor) (by repeat constructor) (fun h => nomatch h) ?_
    rintro _ _ _ ⟨A2, c2, rfl, rfl, rfl⟩
    refine go_pure1 Tk rfl rfl rfl ?_
    refine go_pure1 Tk rfl rfl rfl ?_
    refine go_store Tk rfl rfl rfl rfl rfl rfl (by repeat constructor) rfl rfl (by rfl) (fun h => nomatch h) ?_
    refine go_nil ?_
    rw [← fput_no (by simpa using g1)]
    refine go_fold [pt b 110 [.slice A2 (fput l q).length c2], ol tFa 31 A2 c2 (fput l q)] (relO b (fput l q)) (by repeat constructor) (fun _ _ q => relO_mk q) ?_
    refine go_env [] trivial ?_
    refine go_seq ?_
    refine go_region rfl ?_
    refine go_pure0 Tk rfl rfl rfl ?_
    refine go_nil ?_
    refine go_env [(4, _)] ⟨rfl, trivial⟩ ?_
    refine go_ret ⟨rfl, rfl⟩ _ _ (fun a w hp ho hf hs => res1 (by rfl) (.tmp rfl) a w hp ho hf hs) ⟨by rw [decide_eq_false (by simpa using g1)]; rfl, rfl, rfl⟩ (by repeat constructor) (by repeat constructor)

set_option maxHeartbeats 2000000 in
set_option maxRecDepth 20000 in
theorem relOfO (A : Option Addr) (c : Nat) (l : List Fa) (cs : List Value) (hn : l.length ≤ 1000000) (hb : ∀ x ∈ l, x.a.length ≤ 100000) :
    Spec Try.prog 31 #[.slice A l.length c] [] [dlc 31 A c l cs] (fun v Ps' Os' => ∃ b, v = .pointer (some ⟨b, 0, none⟩) ∧ Ps' = [] ∧ Os' = [relO b (fof l), dlc 31 A c l cs]) := by
  refine spec_of (fn := Try.f31) (args := [.slice A l.length c]) 21 Try.func31 rfl (by kernel_rfl) Try.ntmps31 (Nat.le_of_ble_eq_true rfl) (fun w0 hp0 hf0 => ?_)
  refine go_seq ?_
  refine go_region rfl ?_
  refine go_pure0 Tk rfl rfl rfl ?_
  refine go_nil ?_
  refine go_env [(0, _)] ⟨rfl, trivial⟩ ?_
  refine go_seq ?_
  refine go_region rfl ?_
  refine go_call (relNew) rfl rfl (by rfl) rfl (by repeat constructor) (by repeat constructor) (fun h => nomatch h) ?_
  rintro _ _ _ ⟨br, rfl, rfl, rfl⟩
  refine go_pure0 Tk rfl rfl rfl ?_
  refine go_nil ?_
  refine go_env [(0, _), (3, _)] ⟨rfl, rfl, trivial⟩ ?_
  refine go_seq ?_
  refine go_region rfl ?_
  refine go_pure0 Tk rfl rfl rfl ?_
  refine go_pure0 Tk rfl rfl rfl ?_
  refine go_pure0 Tk rfl rfl rfl ?_
  refine go_nil ?_
  refine go_env [(0, _), (3, _), (4, _)] ⟨rfl, rfl, rfl, trivial⟩ ?_
  refine go_seq ?_
  refine go_seq ?_
  refine go_region rfl ?_
  refine go_pure0 Tk rfl rfl rfl ?_
  refine go_pure0 Tk rfl rfl rfl ?_
  refine go_pure0 Tk rfl rfl rfl ?_
  refine go_nil ?_
  refine go_env [(3, _), (4, _), (10, _), (11, _), (12, _)] ⟨rfl, rfl, rfl, rfl, rfl, trivial⟩ ?_
  refine go_block ?_
  refine go_loop' (X := Nat) (fun k => [(12, .int .i64 (k : Int))]) [(3, _), (4, _), (10, _), (11, _)] (fun k => [relO br (fof (l.take k))]) (fun k => k ≤ l.length) (fun k => l.length - k) (0) ⟨rfl, rfl, rfl, rfl, rfl, trivial⟩ (by repeat constructor) (by omega) ?_
  intro k hk
  refine go_seq ?_
  refine go_region rfl ?_
  refine go_pure0 Tk rfl rfl rfl ?_
  refine go_nil ?_
  refine go_env [(3, _), (4, _), (10, _), (11, _), (12, _), (13, _)] ⟨rfl, rfl, rfl, rfl, rfl, rfl, trivial⟩ ?_
  refine go_seq ?_
  refine go_condD rfl ?_ ?_
  · intro hq1
    refine go_skip ?_
    refine go_seq ?_
    refine go_block ?_
    refine go_seq ?_
    refine go_dlc_at (by repeat constructor) k (List.getElem?_eq_getElem (by omega)) (fun b0 A0 c0 hA hq0 _ => ?_); subst hA
    refine go_region rfl ?_
    refine go_val0 rfl (idx_val Tk rfl rfl rfl rfl rfl (by omega)) rfl ?_
    refine go_val0 rfl (load_val Tk rfl rfl rfl (at_fa (by repeat constructor) hq0 rfl) rfl) rfl ?_
    refine go_alloc Tk rfl rfl rfl (by rfl) rfl rfl (fun h => nomatch h) ?_
    intro b1
    refine go_store Tk rfl rfl rfl rfl rfl rfl (by repeat constructor) rfl rfl (by rfl) (fun h => nomatch h) ?_
    refine go_nil ?_
    refine go_env [(3, _), (4, _), (6, _), (10, _), (11, _), (12, _)] ⟨rfl, rfl, rfl, rfl, rfl, rfl, trivial⟩ ?_
    refine go_region rfl ?_
    refine go_pure0 Tk rfl rfl rfl ?_
    refine go_val0 rfl (load_val Tk rfl rfl rfl (by first | exact at_pt (by repeat constructor) (by rfl) | exact at_cl 0 (by repeat constructor) (by rfl) | exact at_cl 1 (by repeat constructor) (by rfl) | exact at_cl 2 (by repeat constructor) (by rfl) | exact at_cl 3 (by repeat constructor) (by rfl) | exact at_cl 4 (by repeat constructor) (by rfl) | exact at_cl 5 (by repeat constructor) (by rfl) | exact at_cl 6 (by repeat constructor) (by rfl) | exact at_cl 7 (by repeat constructor) (by rfl)) (by rfl)) rfl ?_
    refine go_call (relPutO br (fof (l.take k)) l[k] A0 c0 (dlc 31 (some ⟨b0, 0, none⟩) c l cs) (lend_dlc (List.getElem?_eq_getElem (by omega)) hq0) free_dlc (rises_fof _) (by have := fof_len (l.take k); rw [List.length_take] at this; omega) (hb _ (List.getElem_mem _))) rfl rfl (by rfl) rfl (by repeat constructor) (by repeat constructor) (fun h => nomatch h) ?_
    rintro _ _ _ ⟨rfl, rfl, rfl⟩
    refine go_nil ?_
    refine go_env [(3, _), (4, _), (10, _), (11, _), (12, _)] ⟨rfl, rfl, rfl, rfl, rfl, trivial⟩ ?_
    refine go_blk ?_
    refine go_region rfl ?_
    refine go_pure0 Tk rfl rfl rfl ?_
    refine go_pure0 Tk rfl rfl rfl ?_
    refine go_nil ?_
    rw [← fof_next (by omega)]
    refine go_i64 12 rfl (by omega) (by omega) ?_
    refine go_back (k + 1) ⟨rfl, rfl, rfl, rfl, rfl, trivial⟩ (by repeat constructor) (by repeat constructor) (by omega) (by omega)
  · intro hq1
    refine go_exit rfl ?_
    refine go_seq ?_
    rw [List.take_of_length_le (show l.length ≤ k by omega)]
    refine go_region rfl ?_
    refine go_pure0 Tk rfl rfl rfl ?_
    refine go_pure0 Tk rfl rfl rfl ?_
    refine go_nil ?_
    refine go_env [(2, _)] ⟨rfl, trivial⟩ ?_
    refine go_ret ⟨rfl, rfl⟩ _ _ (fun a w hp ho hf hs => res1 (by rfl) (.tmp rfl) a w hp ho hf hs) ⟨br, rfl, rfl, rfl⟩ (by repeat constructor) (by repeat constructor)

set_option maxHeartbeats 2000000 in
set_option maxRecDepth 20000 in
theorem lawTurned (A : Option Addr) (c : Nat) (l : List Fa) (hn : l.length ≤ 1000000) :
    Spec Try.prog 32 #[.slice A l.length c] [] [dl tFa 31 A c l] (fun v Ps' Os' => v = .tuple #[] ∧ Ps' = [] ∧ Os' = []) := by
  refine spec_of (fn := Try.f32) (args := [.slice A l.length c]) 36 Try.func32 rfl (by kernel_rfl) Try.ntmps32 (Nat.le_of_ble_eq_true rfl) (fun w0 hp0 hf0 => ?_)
  refine go_seq ?_
  refine go_dlc (by repeat constructor) (fun cs => ?_)
  refine go_unshc (by repeat constructor) rfl ?_
  refine go_region rfl ?_
  refine go_pure0 Tk rfl rfl rfl ?_
  refine go_nil ?_
  refine go_env [(0, _), (2, _)] ⟨rfl, rfl, trivial⟩ ?_
  refine go_block ?_
  refine go_loop' (X := Nat) (fun i => [(2, .int .i64 (i : Int))]) [(0, _)] (fun _ => [shc 31 A c l.length cs]) (fun i => i ≤ l.length) (fun i => l.length - i) (0) ⟨rfl, rfl, trivial⟩ (by repeat constructor) (by omega) ?_
  intro i hi
  refine go_seq ?_
  refine go_seq ?_
  refine go_region rfl ?_
  refine go_pure0 Tk rfl rfl rfl ?_
  refine go_pure0 Tk rfl rfl rfl ?_
  refine go_pure0 Tk rfl rfl rfl ?_
  refine go_pure0 Tk rfl rfl rfl ?_
  refine go_nil ?_
  refine go_env [(0, _), (2, _), (7, _)] ⟨rfl, rfl, rfl, trivial⟩ ?_
  refine go_condD rfl ?_ ?_
  · intro hq1
    refine go_skip ?_
    refine go_seq ?_
    refine go_block ?_
    refine go_seq ?_
    refine go_shc (by repeat constructor) (fun xs hx => ?_)
    refine go_dlc_at (by repeat constructor) i (List.getElem?_eq_getElem (by omega)) (fun b0 A0 c0 hA hq0 hle => ?_); subst hA
    refine go_unshc (by repeat constructor) hx ?_
    refine go_region rfl ?_
    refine go_pure0 Tk rfl rfl rfl ?_
    refine go_nil ?_
    refine go_env [(0, _), (2, _), (3, _)] ⟨rfl, rfl, rfl, trivial⟩ ?_
    refine go_block ?_
    refine go_loop' (X := Nat) (fun k => [(3, .int .i64 (k : Int))]) [(0, _), (2, _)] (fun _ => [shc 31 (some ⟨b0, 0, none⟩) c l.length cs]) (fun k => k ≤ xs[i].a.length) (fun k => xs[i].a.length - k) (0) ⟨rfl, rfl, rfl, trivial⟩ (by repeat constructor) (by omega) ?_
    intro k hk
    refine go_seq ?_
    refine go_seq ?_
    refine go_shc (by repeat constructor) (fun ys hy => ?_)
    refine go_dlc_at (by repeat constructor) i (List.getElem?_eq_getElem (show i < ys.length by omega)) (fun b1 A1 c1 hA hq2 hle2 => ?_); cases hA
    obtain ⟨rfl, hlen, rfl⟩ := cell2_eq hq0 hq2
    refine go_region rfl ?_
    refine go_pure0 Tk rfl rfl rfl ?_
    refine go_pure0 Tk rfl rfl rfl ?_
    refine go_pure0 Tk rfl rfl rfl ?_
    refine go_val0 rfl (idx_val Tk rfl rfl rfl rfl rfl (by omega)) rfl ?_
    refine go_pure0 Tk rfl rfl rfl ?_
    refine go_val0 rfl (load_val Tk rfl rfl rfl (at_fa1 (by repeat constructor) hq2 rfl) rfl) rfl ?_
    refine go_pure0 Tk rfl rfl rfl ?_
    refine go_pure0 Tk rfl rfl rfl ?_
    refine go_nil ?_
    refine go_env [(0, _), (2, _), (3, _), (17, _)] ⟨rfl, rfl, rfl, rfl, trivial⟩ ?_
    refine go_condD rfl ?_ ?_
    · intro h1
      refine go_skip ?_
      refine go_seq ?_
      refine go_block ?_
      refine go_arg_at (by repeat constructor) (List.getElem?_eq_getElem (show i < ys.length by omega)) hq2 (show k < _ by omega) (fun b2 o2 hA => ?_); subst hA
      refine go_draw'  [4, 10, 13] (SL.pre [(1, 0), (1, 1), (1, 2), (1, 3), (1, 5), (1, 6), (1, 7), (1, 8), (1, 9), (1, 11), (2, 4), (2, 10), (1, 12), (2, 13), (1, 14), (1, 15), (0, 16)] .nil) mixed rfl (by kernel_rfl) ?_
      refine go_pure1 Tk rfl rfl rfl ?_
      refine go_pure1 Tk rfl rfl rfl ?_
      refine go_val1 rfl (idx_val Tk rfl rfl rfl rfl rfl (by omega)) rfl ?_
      refine go_pure1 Tk rfl rfl rfl ?_
      refine go_pure1 Tk rfl rfl rfl ?_
      refine go_pure1 Tk rfl rfl rfl ?_
      refine go_pure1 Tk rfl rfl rfl ?_
      refine go_val1 rfl (idx_val Tk rfl rfl rfl rfl rfl (by omega)) rfl ?_
      refine go_pure1 Tk rfl rfl rfl ?_
      refine go_pure1 Tk rfl rfl rfl ?_
      refine go_val2 rfl (load_val Tk rfl rfl rfl (at_fa1 (by repeat constructor) hq2 rfl) rfl) (by repeat constructor) (by repeat constructor) rfl ?_
      refine go_val2 rfl (load_val Tk rfl rfl rfl (at_fa1 (by repeat constructor) hq2 rfl) rfl) (by repeat constructor) (by repeat constructor) rfl ?_
      refine go_val1 rfl (idx_val Tk rfl rfl rfl rfl rfl (by omega)) rfl ?_
      refine go_val2 rfl (load_val Tk rfl rfl rfl (at_arg (by repeat constructor) (List.getElem?_eq_getElem (show i < ys.length by omega)) hq2 (show k < _ by omega) (by show o2 + k * 1 = o2 + k; omega)) rfl) (by repeat constructor) (by repeat constructor) rfl ?_
      refine go_pure1 Tk rfl rfl rfl ?_
      refine go_val1 rfl (idx_val Tk rfl rfl rfl rfl rfl (by omega)) rfl ?_
      refine go_store_arg Tk rfl rfl rfl rfl rfl rfl rfl (by repeat constructor) (List.getElem?_eq_getElem (show i < ys.length by omega)) hq2 (show k < _ by omega) (by show o2 + k * 1 = o2 + k; omega) (fun h => nomatch (Eq.symm h).trans (show _ = false by kernel_rfl)) ?_
      refine go_imp (shc 31 (some ⟨b0, 0, none⟩) c ys.length cs) [shc 31 (some ⟨b0, 0, none⟩) c l.length cs] (by repeat constructor) (fun _ _ q => sep_one (hy ▸ q)) ?_
      refine go_nil ?_
      refine go_env [(0, _), (2, _), (3, _)] ⟨rfl, rfl, rfl, trivial⟩ ?_
      refine go_blk ?_
      refine go_region rfl ?_
      refine go_pure0 Tk rfl rfl rfl ?_
      refine go_pure0 Tk rfl rfl rfl ?_
      refine go_pure0 Tk rfl rfl rfl ?_
      refine go_nil ?_
      refine go_i64 3 rfl (by omega) (by omega) ?_
      refine go_back (k + 1) ⟨rfl, rfl, rfl, trivial⟩ (by repeat constructor) (by repeat constructor) (by omega) (by omega)
    · intro h1
      refine go_unshc (by repeat constructor) hy ?_
      refine go_exit rfl ?_
      refine go_blk ?_
      refine go_region rfl ?_
      refine go_pure0 Tk rfl rfl rfl ?_
      refine go_pure0 Tk rfl rfl rfl ?_
      refine go_pure0 Tk rfl rfl rfl ?_
      refine go_nil ?_
      refine go_i64 2 rfl (by omega) (by omega) ?_
      refine go_back (i + 1) ⟨rfl, rfl, trivial⟩ (by repeat constructor) (by repeat constructor) (by omega) (by omega)
  · intro hq1
    refine go_exit rfl ?_
    refine go_end ⟨rfl, rfl⟩ _ _ (fun a w hp ho hf hs => res0 (by rfl) a w hp ho hf hs) ⟨rfl, rfl, rfl⟩ (by repeat constructor) (by repeat constructor)

end Go.Proofs.Ytdkfpgdfjnaciaa.SL
