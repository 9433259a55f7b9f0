/- Contracts of functions of the program (Matchs): what each call comes to, for the laws' proofs. -/
import Derived.Test.YtdkfpgdfjnaciaaRelp
import Derived.Test.YtdkfpgdfjnaciaaD7
set_option linter.unusedVariables false
set_option linter.unusedSimpArgs false
namespace Go.Proofs.Ytdkfpgdfjnaciaa.SL
open Go 

set_option maxHeartbeats 2000000 in
set_option maxRecDepth 20000 in
theorem atomsKind (t : Tm) (n : Int) :
    Spec Try.prog 81 #[.agg #[.bool t.v, .int .u32 t.n], .int .u32 n] [] [] (fun v Ps' Os' => v = .int .i64 (if t.v then 2 else if t.n = n then 1 else 0) ∧ Ps' = [] ∧ Os' = []) := by
  refine spec_of (fn := Try.f81) (args := [.agg #[.bool t.v, .int .u32 t.n], .int .u32 n]) 13 Try.func81 rfl (by kernel_rfl) Try.ntmps81 (Nat.le_of_ble_eq_true rfl) (fun w0 hp0 hf0 => ?_)
  refine go_seq ?_
  refine go_region rfl ?_
  refine go_box Tk rfl rfl rfl rfl (by rfl) rfl rfl (fun h => nomatch h) ?_
  intro b1
  refine go_pure0 Tk rfl rfl rfl ?_
  refine go_nil ?_
  refine go_env [(1, _), (2, _)] ⟨rfl, rfl, trivial⟩ ?_
  refine go_seq ?_
  refine go_block ?_
  refine go_seq ?_
  refine go_region rfl ?_
  refine go_pure0 Tk rfl rfl rfl ?_
  refine go_val0 rfl (load_val Tk rfl rfl rfl (by first | exact at_pt (by repeat constructor) (by rfl) | exact at_cl 0 (by repeat constructor) (by rfl) | exact at_cl 1 (by repeat constructor) (by rfl) | exact at_cl 2 (by repeat constructor) (by rfl) | exact at_cl 3 (by repeat constructor) (by rfl) | exact at_cl 4 (by repeat constructor) (by rfl) | exact at_cl 5 (by repeat constructor) (by rfl) | exact at_cl 6 (by repeat constructor) (by rfl) | exact at_cl 7 (by repeat constructor) (by rfl)) (by rfl)) rfl ?_
  refine go_pure0 Tk rfl rfl rfl ?_
  refine go_nil ?_
  refine go_env [(1, _), (2, _), (5, _)] ⟨rfl, rfl, rfl, trivial⟩ ?_
  refine go_cond rfl ?_ ?_
  · intro h1
    (try simp only [decide_eq_true_eq, decide_eq_false_iff_not, Bool.not_eq_true', Bool.not_eq_false', Bool.not_eq_eq_eq_not, Bool.not_true, Bool.not_false, Int.not_lt, Int.not_le, beq_iff_eq, beq_eq_false_iff_ne, ne_eq] at h1)
    refine go_seq ?_
    refine go_region rfl ?_
    refine go_pure0 Tk rfl rfl rfl ?_
    refine go_nil ?_
    refine go_env [(4, _)] ⟨rfl, trivial⟩ ?_
    refine go_ret ⟨rfl, rfl⟩ _ _ (fun a w hp ho hf hs => res1 (by rfl) (.tmp rfl) a w hp ho hf hs) ⟨by rw [h1]; rfl, rfl, rfl⟩ (by repeat constructor) (by repeat constructor)
  · intro h1
    (try simp only [decide_eq_true_eq, decide_eq_false_iff_not, Bool.not_eq_true', Bool.not_eq_false', Bool.not_eq_eq_eq_not, Bool.not_true, Bool.not_false, Int.not_lt, Int.not_le, beq_iff_eq, beq_eq_false_iff_ne, ne_eq] at h1)
    refine go_seq ?_
    refine go_region rfl ?_
    refine go_pure0 Tk rfl rfl rfl ?_
    refine go_val0 rfl (load_val Tk rfl rfl rfl (by first | exact at_pt (by repeat constructor) (by rfl) | exact at_cl 0 (by repeat constructor) (by rfl) | exact at_cl 1 (by repeat constructor) (by rfl) | exact at_cl 2 (by repeat constructor) (by rfl) | exact at_cl 3 (by repeat constructor) (by rfl) | exact at_cl 4 (by repeat constructor) (by rfl) | exact at_cl 5 (by repeat constructor) (by rfl) | exact at_cl 6 (by repeat constructor) (by rfl) | exact at_cl 7 (by repeat constructor) (by rfl)) (by rfl)) rfl ?_
    refine go_pure0 Tk rfl rfl rfl ?_
    refine go_pure0 Tk rfl rfl rfl ?_
    refine go_pure0 Tk rfl rfl rfl ?_
    refine go_nil ?_
    refine go_env [(8, _)] ⟨rfl, trivial⟩ ?_
    refine go_cond rfl ?_ ?_
    · intro h2
      (try simp only [decide_eq_true_eq, decide_eq_false_iff_not, Bool.not_eq_true', Bool.not_eq_false', Bool.not_eq_eq_eq_not, Bool.not_true, Bool.not_false, Int.not_lt, Int.not_le, beq_iff_eq, beq_eq_false_iff_ne, ne_eq] at h2)
      refine go_seq ?_
      refine go_region rfl ?_
      refine go_pure0 Tk rfl rfl rfl ?_
      refine go_nil ?_
      refine go_env [(4, _)] ⟨rfl, trivial⟩ ?_
      refine go_ret ⟨rfl, rfl⟩ _ _ (fun a w hp ho hf hs => res1 (by rfl) (.tmp rfl) a w hp ho hf hs) ⟨by rw [h1, if_neg (by decide), if_pos h2], rfl, rfl⟩ (by repeat constructor) (by repeat constructor)
    · intro h2
      (try simp only [decide_eq_true_eq, decide_eq_false_iff_not, Bool.not_eq_true', Bool.not_eq_false', Bool.not_eq_eq_eq_not, Bool.not_true, Bool.not_false, Int.not_lt, Int.not_le, beq_iff_eq, beq_eq_false_iff_ne, ne_eq] at h2)
      refine go_skip ?_
      refine go_blk ?_
      refine go_seq ?_
      refine go_region rfl ?_
      refine go_pure0 Tk rfl rfl rfl ?_
      refine go_nil ?_
      refine go_env [(4, _)] ⟨rfl, trivial⟩ ?_
      refine go_ret ⟨rfl, rfl⟩ _ _ (fun a w hp ho hf hs => res1 (by rfl) (.tmp rfl) a w hp ho hf hs) ⟨by rw [h1, if_neg (by decide), if_neg h2], rfl, rfl⟩ (by repeat constructor) (by repeat constructor)

set_option maxHeartbeats 2000000 in
set_option maxRecDepth 20000 in
theorem indexTm (A : Option Addr) (c : Nat) (l : List Tm) (x : Tm) :
    Spec Try.prog 105 #[.slice A l.length c, .agg #[.bool x.v, .int .u32 x.n]] [sl tTm A c l] [] (fun v Ps' Os' => v = .int .i64 (idxT l x) ∧ Ps' = [] ∧ Os' = []) := by
  refine spec_of (fn := Try.f105) (args := [.slice A l.length c, .agg #[.bool x.v, .int .u32 x.n]]) 19 Try.func105 rfl (by kernel_rfl) Try.ntmps105 (Nat.le_of_ble_eq_true rfl) (fun w0 hp0 hf0 => ?_)
  refine go_seq ?_
  refine go_len (xs := l) (by repeat constructor) (fun l0 m0 => ?_)
  refine go_region rfl ?_
  refine go_box Tk rfl rfl rfl rfl (by rfl) rfl rfl (fun h => nomatch h) ?_
  intro b1
  refine go_pure0 Tk rfl rfl rfl ?_
  refine go_nil ?_
  refine go_env [(0, _), (3, _)] ⟨rfl, rfl, trivial⟩ ?_
  refine go_seq ?_
  refine go_seq ?_
  refine go_region rfl ?_
  refine go_pure0 Tk rfl rfl rfl ?_
  refine go_pure0 Tk rfl rfl rfl ?_
  refine go_pure0 Tk rfl rfl rfl ?_
  refine go_nil ?_
  refine go_env [(0, _), (3, _), (7, _), (8, _)] ⟨rfl, rfl, rfl, rfl, trivial⟩ ?_
  refine go_block ?_
  refine go_loop' (X := Nat) (fun k => [(8, .int .i64 (k : Int))]) [(0, _), (3, _), (7, _)] (fun _ => []) (fun k => k ≤ l.length ∧ ∀ y ∈ l.take k, ¬ y = x) (fun k => l.length - k) (0) ⟨rfl, rfl, rfl, rfl, trivial⟩ (by repeat constructor) ⟨by omega, by simp⟩ ?_
  intro k ⟨hk, hz⟩
  refine go_seq ?_
  refine go_region rfl ?_
  refine go_pure0 Tk rfl rfl rfl ?_
  refine go_nil ?_
  refine go_env [(0, _), (3, _), (7, _), (8, _), (9, _)] ⟨rfl, rfl, rfl, rfl, rfl, trivial⟩ ?_
  refine go_seq ?_
  refine go_condD rfl ?_ ?_
  · intro c1
    refine go_skip ?_
    refine go_seq ?_
    refine go_block ?_
    refine go_seq ?_
    refine go_region rfl ?_
    refine go_pure0 Tk rfl rfl rfl ?_
    refine go_pure0 Tk rfl rfl rfl ?_
    refine go_nil ?_
    refine go_env [(0, _), (3, _), (5, _), (7, _), (8, _)] ⟨rfl, rfl, rfl, rfl, rfl, trivial⟩ ?_
    refine go_seq ?_
    refine go_elem_tm (xs := l) (by repeat constructor) (k) (List.getElem?_eq_getElem (by omega)) (fun b o hA => ?_); cases hA
    refine go_draw'  [0, 4] (SL.pre [(1, 1), (1, 2), (1, 3), (2, 0), (2, 4), (1, 5)] .nil) mixed rfl (by kernel_rfl) ?_
    refine go_pure1 Tk rfl rfl rfl ?_
    refine go_pure1 Tk rfl rfl rfl ?_
    refine go_val1 rfl (idx_val Tk rfl rfl rfl rfl rfl (by omega)) rfl ?_
    refine go_val2 rfl (load_val Tk rfl rfl rfl (by first | exact at_pt (by repeat constructor) (by rfl) | exact at_cl 0 (by repeat constructor) (by rfl) | exact at_cl 1 (by repeat constructor) (by rfl) | exact at_cl 2 (by repeat constructor) (by rfl) | exact at_cl 3 (by repeat constructor) (by rfl) | exact at_cl 4 (by repeat constructor) (by rfl) | exact at_cl 5 (by repeat constructor) (by rfl) | exact at_cl 6 (by repeat constructor) (by rfl) | exact at_cl 7 (by repeat constructor) (by rfl)) (by rfl)) (by repeat constructor) (by repeat constructor) rfl ?_
    refine go_val2 rfl (load_val Tk rfl rfl rfl (by first | exact at_pt (by repeat constructor) (by rfl) | exact at_cl 0 (by repeat constructor) (by rfl) | exact at_cl 1 (by repeat constructor) (by rfl) | exact at_cl 2 (by repeat constructor) (by rfl) | exact at_cl 3 (by repeat constructor) (by rfl) | exact at_cl 4 (by repeat constructor) (by rfl) | exact at_cl 5 (by repeat constructor) (by rfl) | exact at_cl 6 (by repeat constructor) (by rfl) | exact at_cl 7 (by repeat constructor) (by rfl)) (by rfl)) (by repeat constructor) (by repeat constructor) rfl ?_
    refine go_val1 rfl (seq_val Tk rfl rfl rfl rfl (by rfl) rfl (by kernel_rfl) (by kernel_rfl)) rfl ?_
    refine go_re 16 (.bool (decide (l[k] = x))) (by show some (Value.bool _) = _; rw [tm_eq]) ?_
    refine go_nil ?_
    refine go_env [(0, _), (3, _), (5, _), (7, _), (8, _), (16, _)] ⟨rfl, rfl, rfl, rfl, rfl, rfl, trivial⟩ ?_
    refine go_cond rfl ?_ ?_
    · intro c2
      (try simp only [decide_eq_true_eq, decide_eq_false_iff_not, Bool.not_eq_true', Bool.not_eq_false', Bool.not_eq_eq_eq_not, Bool.not_true, Bool.not_false, Int.not_lt, Int.not_le, beq_iff_eq, beq_eq_false_iff_ne, ne_eq] at c2)
      refine go_seq ?_
      refine go_region rfl ?_
      refine go_pure0 Tk rfl rfl rfl ?_
      refine go_pure0 Tk rfl rfl rfl ?_
      refine go_nil ?_
      refine go_env [(4, _)] ⟨rfl, trivial⟩ ?_
      refine go_ret ⟨rfl, rfl⟩ _ _ (fun a w hp ho hf hs => res1 (by rfl) (.tmp rfl) a w hp ho hf hs) ⟨by unfold idxT; rw [idxT_hit (by omega) hz c2], rfl, rfl⟩ (by repeat constructor) (by repeat constructor)
    · intro c2
      (try simp only [decide_eq_true_eq, decide_eq_false_iff_not, Bool.not_eq_true', Bool.not_eq_false', Bool.not_eq_eq_eq_not, Bool.not_true, Bool.not_false, Int.not_lt, Int.not_le, beq_iff_eq, beq_eq_false_iff_ne, ne_eq] at c2)
      refine go_skip ?_
      refine go_blk ?_
      refine go_region rfl ?_
      refine go_pure0 Tk rfl rfl rfl ?_
      refine go_pure0 Tk rfl rfl rfl ?_
      refine go_nil ?_
      refine go_i64 8 rfl (by omega) (by omega) ?_
      refine go_back (k + 1) ⟨rfl, rfl, rfl, rfl, trivial⟩ (by repeat constructor) (by repeat constructor) ⟨by omega, mem_take_next' (by omega) hz c2⟩ (by omega)
  · intro c1
    refine go_exit rfl ?_
    refine go_seq ?_
    refine go_region rfl ?_
    refine go_pure0 Tk rfl rfl rfl ?_
    refine go_nil ?_
    refine go_env [(4, _)] ⟨rfl, trivial⟩ ?_
    refine go_ret ⟨rfl, rfl⟩ _ _ (fun a w hp ho hf hs => res1 (by rfl) (.tmp rfl) a w hp ho hf hs) ⟨by unfold idxT; rw [idxT_none (by rw [List.take_of_length_le (by omega)] at hz; exact hz)], rfl, rfl⟩ (by repeat constructor) (by repeat constructor)

/-- What is held of variables, in memory. -/
def heldO (b : Nat) (σ : Int → Option Int) (m : Nat) : OA := OA.ex fun few : List Int => OA.ex fun is : List Bool => OA.ex fun many : List Tm => OA.ex fun by_ : List Int => OA.ex fun A1 : Option Addr => OA.ex fun c1 : Nat => OA.ex fun A2 : Option Addr => OA.ex fun c2 : Nat =>
  OA.and (HeldOk few is many by_ σ m) (OA.all [pt b 120 (hc few is [.slice A1 many.length c1, .slice A2 by_.length c2]), ol tTm 78 A1 c1 many, ol tU 28 A2 c2 by_])
theorem go_held {C : Ctx} {k : List It} {E : Env} {Ps : List PA} {Os : List OA} {b m : Nat} {σ : Int → Option Int} {rr : List OA} (h : Rem (heldO b σ m) Os rr)
    (g : ∀ few is many by_ A1 c1 A2 c2, HeldOk few is many by_ σ m → Go C k E Ps ([pt b 120 (hc few is [.slice A1 many.length c1, .slice A2 by_.length c2]), ol tTm 78 A1 c1 many, ol tU 28 A2 c2 by_] ++ rr)) : Go C k E Ps Os :=
  go_oex h fun few => go_oex .here fun is => go_oex .here fun many => go_oex .here fun by_ => go_oex .here fun A1 => go_oex .here fun c1 => go_oex .here fun A2 => go_oex .here fun c2 => go_oand .here fun hk => go_oall .here (g few is many by_ A1 c1 A2 c2 hk)
theorem heldO_mk {b m : Nat} {σ : Int → Option Int} {few : List Int} {is : List Bool} {many : List Tm} {by_ : List Int} {A1 : Option Addr} {c1 : Nat} {A2 : Option Addr} {c2 : Nat} (hk : HeldOk few is many by_ σ m) {hp h : Heap}
    (q : Sep hp [pt b 120 (hc few is [.slice A1 many.length c1, .slice A2 by_.length c2]), ol tTm 78 A1 c1 many, ol tU 28 A2 c2 by_] h) : (heldO b σ m).p hp h := ⟨few, is, many, by_, A1, c1, A2, c2, hk, q⟩
theorem held_more {few : List Int} {is : List Bool} {many : List Tm} {by_ : List Int} {σ : Int → Option Int} {m : Nat} (h : HeldOk few is many by_ σ m) : HeldOk few is many by_ σ (m + 1) := ⟨h.l1, h.l2, h.l3, by have := h.l4; omega, h.so⟩
theorem heldO_more {b m : Nat} {σ : Int → Option Int} {hp h : Heap} (q : (heldO b σ m).p hp h) : (heldO b σ (m + 1)).p hp h := by
  obtain ⟨few, is, many, by_, A1, c1, A2, c2, hk, q⟩ := q
  exact ⟨few, is, many, by_, A1, c1, A2, c2, held_more hk, q⟩

set_option maxHeartbeats 2000000 in
set_option maxRecDepth 20000 in
theorem standsSmall (b : Nat) (σ : Int → Option Int) (m : Nat) (j : Nat) (n : Int) (hj : j < 16) :
    Spec Try.prog 82 #[.pointer (some ⟨b, 0, none⟩), .agg #[.bool true, .int .u32 (j : Int)], .int .u32 n] [] [heldO b σ m] (fun v Ps' Os' => ∃ σ', v = .bool (decide (σ (j : Int) = none ∨ σ (j : Int) = some n)) ∧ ((σ (j : Int) = none ∨ σ (j : Int) = some n) → σ' = upd σ (j : Int) n) ∧ Ps' = [] ∧ Os' = [heldO b σ' (m + 1)]) := by
  refine spec_of (fn := Try.f82) (args := [.pointer (some ⟨b, 0, none⟩), .agg #[.bool true, .int .u32 (j : Int)], .int .u32 n]) 84 Try.func82 rfl (by kernel_rfl) Try.ntmps82 (Nat.le_of_ble_eq_true rfl) (fun w0 hp0 hf0 => ?_)
  refine go_seq ?_
  refine go_held (b := b) (by repeat constructor) (fun few is many by_ A1 c1 A2 c2 hk => ?_)
  have f1 := hk.l1
  have f2 := hk.l2
  have f3 := hk.so j (by omega)
  rw [sig, if_pos (by omega), Int.toNat_natCast] at f3
  refine go_region rfl ?_
  refine go_box Tk rfl rfl rfl rfl (by rfl) rfl rfl (fun h => nomatch h) ?_
  intro bt
  refine go_freeze_pt (b := bt) (by repeat constructor) ?_
  refine go_pure0 Tk rfl rfl rfl ?_
  refine go_nil ?_
  refine go_env [(0, _), (2, _), (4, _)] ⟨rfl, rfl, rfl, trivial⟩ ?_
  refine go_seq ?_
  refine go_seq ?_
  refine go_region rfl ?_
  refine go_pure0 Tk rfl rfl rfl ?_
  refine go_val0 rfl (load_val Tk rfl rfl rfl (by first | exact at_pt (by repeat constructor) (by rfl) | exact at_cl 0 (by repeat constructor) (by rfl) | exact at_cl 1 (by repeat constructor) (by rfl) | exact at_cl 2 (by repeat constructor) (by rfl) | exact at_cl 3 (by repeat constructor) (by rfl) | exact at_cl 4 (by repeat constructor) (by rfl) | exact at_cl 5 (by repeat constructor) (by rfl) | exact at_cl 6 (by repeat constructor) (by rfl) | exact at_cl 7 (by repeat constructor) (by rfl)) (by rfl)) rfl ?_
  refine go_pure0 Tk rfl rfl rfl ?_
  refine go_re 12 (.bool true) (by show some (Value.bool (decide _)) = _; rw [decide_eq_true (by omega)]) ?_
  refine go_nil ?_
  refine go_env [(0, _), (2, _), (4, _), (12, _)] ⟨rfl, rfl, rfl, rfl, trivial⟩ ?_
  refine go_cond_t rfl ?_
  refine go_seq ?_
  refine go_draw'  [2, 6] (SL.pre [(1, 0), (1, 1), (1, 3), (1, 4), (2, 2), (1, 5), (2, 6), (1, 7)] .nil) mixed rfl (by kernel_rfl) ?_
  refine go_pure1 Tk rfl rfl rfl ?_
  refine go_pure1 Tk rfl rfl rfl ?_
  refine go_pure1 Tk rfl rfl rfl ?_
  refine go_pure1 Tk rfl rfl rfl ?_
  refine go_val2 rfl (load_val Tk rfl rfl rfl (by first | exact at_pt (by repeat constructor) (by rfl) | exact at_cl 0 (by repeat constructor) (by rfl) | exact at_cl 1 (by repeat constructor) (by rfl) | exact at_cl 2 (by repeat constructor) (by rfl) | exact at_cl 3 (by repeat constructor) (by rfl) | exact at_cl 4 (by repeat constructor) (by rfl) | exact at_cl 5 (by repeat constructor) (by rfl) | exact at_cl 6 (by repeat constructor) (by rfl) | exact at_cl 7 (by repeat constructor) (by rfl)) (by rfl)) (by repeat constructor) (by repeat constructor) rfl ?_
  refine go_val1 rfl (idxA_val Tk rfl rfl rfl rfl rfl (by omega)) rfl ?_
  refine go_val2 rfl (load_val (cs := [.int .u32 few[j]]) Tk rfl rfl rfl (at_one (by repeat constructor) (hc_few (by omega) (by show 0 + 0 + j * 1 = j; omega))) rfl) (by repeat constructor) (by repeat constructor) rfl ?_
  refine go_pure1 Tk rfl rfl rfl ?_
  refine go_nil ?_
  refine go_env [(0, _), (2, _), (4, _), (7, _)] ⟨rfl, rfl, rfl, rfl, trivial⟩ ?_
  refine go_seq ?_
  refine go_draw'  [2, 6] (SL.pre [(1, 0), (1, 1), (1, 3), (1, 4), (2, 2), (1, 5), (2, 6), (1, 7)] .nil) mixed rfl (by kernel_rfl) ?_
  refine go_pure1 Tk rfl rfl rfl ?_
  refine go_pure1 Tk rfl rfl rfl ?_
  refine go_pure1 Tk rfl rfl rfl ?_
  refine go_pure1 Tk rfl rfl rfl ?_
  refine go_val2 rfl (load_val Tk rfl rfl rfl (by first | exact at_pt (by repeat constructor) (by rfl) | exact at_cl 0 (by repeat constructor) (by rfl) | exact at_cl 1 (by repeat constructor) (by rfl) | exact at_cl 2 (by repeat constructor) (by rfl) | exact at_cl 3 (by repeat constructor) (by rfl) | exact at_cl 4 (by repeat constructor) (by rfl) | exact at_cl 5 (by repeat constructor) (by rfl) | exact at_cl 6 (by repeat constructor) (by rfl) | exact at_cl 7 (by repeat constructor) (by rfl)) (by rfl)) (by repeat constructor) (by repeat constructor) rfl ?_
  refine go_val1 rfl (idxA_val Tk rfl rfl rfl rfl rfl (by omega)) rfl ?_
  refine go_val2 rfl (load_val (cs := [.bool is[j]]) Tk rfl rfl rfl (at_one (by repeat constructor) (hc_is (by omega) (by show 0 + 16 + j * 1 = _; omega))) rfl) (by repeat constructor) (by repeat constructor) rfl ?_
  refine go_pure1 Tk rfl rfl rfl ?_
  refine go_nil ?_
  refine go_env [(0, _), (2, _), (4, _), (7, _), (8, _)] ⟨rfl, rfl, rfl, rfl, rfl, trivial⟩ ?_
  refine go_seq ?_
  refine go_draw ([cl bt 0 [.bool true, .int .u32 (j : Int)]]) ([]) [2, 5] (SL.pre [(1, 0), (1, 1), (1, 3), (1, 4), (1, 6), (1, 7), (1, 8), (1, 11), (1, 12), (2, 2), (1, 9), (2, 5), (0, 10), (1, 13), (0, 14)] .nil) mixed rfl (by kernel_rfl) ?_
  refine go_pure1 Tk rfl rfl rfl ?_
  refine go_pure1 Tk rfl rfl rfl ?_
  refine go_pure1 Tk rfl rfl rfl ?_
  refine go_pure1 Tk rfl rfl rfl ?_
  refine go_pure1 Tk rfl rfl rfl ?_
  refine go_pure1 Tk rfl rfl rfl ?_
  refine go_pure1 Tk rfl rfl rfl ?_
  refine go_pure1 Tk rfl rfl rfl ?_
  refine go_pure1 Tk rfl rfl rfl ?_
  refine go_val2 rfl (load_val Tk rfl rfl rfl (by first | exact at_pt (by repeat constructor) (by rfl) | exact at_cl 0 (by repeat constructor) (by rfl) | exact at_cl 1 (by repeat constructor) (by rfl) | exact at_cl 2 (by repeat constructor) (by rfl) | exact at_cl 3 (by repeat constructor) (by rfl) | exact at_cl 4 (by repeat constructor) (by rfl) | exact at_cl 5 (by repeat constructor) (by rfl) | exact at_cl 6 (by repeat constructor) (by rfl) | exact at_cl 7 (by repeat constructor) (by rfl)) (by rfl)) (by repeat constructor) (by repeat constructor) rfl ?_
  refine go_val1 rfl (idxA_val Tk rfl rfl rfl rfl rfl (by omega)) rfl ?_
  refine go_val2 rfl (load_val Tk rfl rfl rfl (by first | exact at_pt (by repeat constructor) (by rfl) | exact at_cl 0 (by repeat constructor) (by rfl) | exact at_cl 1 (by repeat constructor) (by rfl) | exact at_cl 2 (by repeat constructor) (by rfl) | exact at_cl 3 (by repeat constructor) (by rfl) | exact at_cl 4 (by repeat constructor) (by rfl) | exact at_cl 5 (by repeat constructor) (by rfl) | exact at_cl 6 (by repeat constructor) (by rfl) | exact at_cl 7 (by repeat constructor) (by rfl)) (by rfl)) (by repeat constructor) (by repeat constructor) rfl ?_
  refine go_store Tk rfl rfl rfl rfl rfl rfl (by repeat constructor) rfl rfl (hc_put_few (j := j) (by omega) (by show 0 + 0 + j * 1 = j; omega)) (fun _ => satS (by repeat constructor) (by repeat constructor)) ?_
  refine go_val1 rfl (idxA_val Tk rfl rfl rfl rfl rfl (by omega)) rfl ?_
  refine go_store Tk rfl rfl rfl rfl rfl rfl (by repeat constructor) rfl rfl (hc_put_is (j := j) (by omega) (by show 0 + 16 + j * 1 = _; rw [List.length_set]; omega)) (fun h => nomatch h) ?_
  refine go_nil ?_
  refine go_fold [pt b 120 (hc (few.set j n) (is.set j true) [.slice A1 (many).length c1, .slice A2 (by_).length c2]), ol tTm 78 A1 c1 (many), ol tU 28 A2 c2 (by_)] (heldO b (upd σ j n) (m + 1)) (by repeat constructor) (fun _ _ q => heldO_mk (held_more (held_small hk hj n)) q) ?_
  refine go_env [(2, _), (7, _), (8, _)] ⟨rfl, rfl, rfl, trivial⟩ ?_
  refine go_seq ?_
  refine go_region rfl ?_
  refine go_pure0 Tk rfl rfl rfl ?_
  refine go_pure0 Tk rfl rfl rfl ?_
  refine go_pure0 Tk rfl rfl rfl ?_
  refine go_known 42 rfl ?_ ?_
  · intro g1
    (try simp only [decide_eq_true_eq, decide_eq_false_iff_not, Bool.not_eq_true', Bool.not_eq_false', Bool.not_eq_eq_eq_not, Bool.not_true, Bool.not_false, Int.not_lt, Int.not_le, beq_iff_eq, beq_eq_false_iff_ne, ne_eq] at g1)
    refine go_skip0 rfl rfl ?_
    refine go_skip0 rfl rfl ?_
    refine go_skip0 rfl rfl ?_
    refine go_pure0 Tk rfl rfl rfl ?_
    refine go_pure0 Tk rfl rfl rfl ?_
    refine go_nil ?_
    refine go_env [(6, _)] ⟨rfl, trivial⟩ ?_
    refine go_ret ⟨rfl, rfl⟩ _ _ (fun a w hp ho hf hs => res1 (by rfl) (.tmp rfl) a w hp ho hf hs) ⟨upd σ j n, congrArg Value.bool (st_new hj f1 f2 f3 g1).symm, fun _ => rfl, rfl, rfl⟩ (by repeat constructor) (by repeat constructor)
  · intro g1
    (try simp only [decide_eq_true_eq, decide_eq_false_iff_not, Bool.not_eq_true', Bool.not_eq_false', Bool.not_eq_eq_eq_not, Bool.not_true, Bool.not_false, Int.not_lt, Int.not_le, beq_iff_eq, beq_eq_false_iff_ne, ne_eq] at g1)
    refine go_pure0 Tk rfl rfl rfl ?_
    refine go_pure0 Tk rfl rfl rfl ?_
    refine go_pure0 Tk rfl rfl rfl ?_
    refine go_pure0 Tk rfl rfl rfl ?_
    refine go_pure0 Tk rfl rfl rfl ?_
    refine go_nil ?_
    refine go_env [(6, _)] ⟨rfl, trivial⟩ ?_
    refine go_ret ⟨rfl, rfl⟩ _ _ (fun a w hp ho hf hs => res1 (by rfl) (.tmp rfl) a w hp ho hf hs) ⟨upd σ j n, congrArg Value.bool (st_old hj f1 f2 f3 g1).symm, fun _ => rfl, rfl, rfl⟩ (by repeat constructor) (by repeat constructor)

set_option maxHeartbeats 2000000 in
set_option maxRecDepth 20000 in
theorem standsBig (b : Nat) (σ : Int → Option Int) (m : Nat) (x n : Int) (hx : 16 ≤ x) (hm : m ≤ 1000000) :
    Spec Try.prog 82 #[.pointer (some ⟨b, 0, none⟩), .agg #[.bool true, .int .u32 x], .int .u32 n] [] [heldO b σ m] (fun v Ps' Os' => ∃ σ', v = .bool (decide (σ x = none ∨ σ x = some n)) ∧ ((σ x = none ∨ σ x = some n) → σ' = upd σ x n) ∧ Ps' = [] ∧ Os' = [heldO b σ' (m + 1)]) := by
  refine spec_of (fn := Try.f82) (args := [.pointer (some ⟨b, 0, none⟩), .agg #[.bool true, .int .u32 x], .int .u32 n]) 84 Try.func82 rfl (by kernel_rfl) Try.ntmps82 (Nat.le_of_ble_eq_true rfl) (fun w0 hp0 hf0 => ?_)
  refine go_seq ?_
  refine go_held (b := b) (by repeat constructor) (fun few is many by_ A1 c1 A2 c2 hk => ?_)
  have f1 := hk.l1
  have f2 := hk.l2
  have f4 := hk.l4
  have f5 := hk.l3
  have f3 := sig_big hk hx
  refine go_region rfl ?_
  refine go_box Tk rfl rfl rfl rfl (by rfl) rfl rfl (fun h => nomatch h) ?_
  intro bt
  refine go_freeze_pt (b := bt) (by repeat constructor) ?_
  refine go_pure0 Tk rfl rfl rfl ?_
  refine go_nil ?_
  refine go_env [(0, _), (2, _), (4, _)] ⟨rfl, rfl, rfl, trivial⟩ ?_
  refine go_seq ?_
  refine go_seq ?_
  refine go_region rfl ?_
  refine go_pure0 Tk rfl rfl rfl ?_
  refine go_val0 rfl (load_val Tk rfl rfl rfl (by first | exact at_pt (by repeat constructor) (by rfl) | exact at_cl 0 (by repeat constructor) (by rfl) | exact at_cl 1 (by repeat constructor) (by rfl) | exact at_cl 2 (by repeat constructor) (by rfl) | exact at_cl 3 (by repeat constructor) (by rfl) | exact at_cl 4 (by repeat constructor) (by rfl) | exact at_cl 5 (by repeat constructor) (by rfl) | exact at_cl 6 (by repeat constructor) (by rfl) | exact at_cl 7 (by repeat constructor) (by rfl)) (by rfl)) rfl ?_
  refine go_pure0 Tk rfl rfl rfl ?_
  refine go_re 12 (.bool false) (by show some (Value.bool (decide _)) = _; rw [decide_eq_false (by omega)]) ?_
  refine go_nil ?_
  refine go_env [(0, _), (2, _), (4, _), (12, _)] ⟨rfl, rfl, rfl, rfl, trivial⟩ ?_
  refine go_cond_f rfl ?_
  refine go_skip ?_
  refine go_seq ?_
  refine go_seq ?_
  refine go_draw'  [3, 4] (SL.pre [(1, 0), (1, 1), (1, 2), (2, 3), (2, 4), (0, 5), (1, 6)] .nil) mixed rfl (by kernel_rfl) ?_
  refine go_pure1 Tk rfl rfl rfl ?_
  refine go_pure1 Tk rfl rfl rfl ?_
  refine go_pure1 Tk rfl rfl rfl ?_
  refine go_val2 rfl (load_val (cs := [.slice A1 many.length c1]) Tk rfl rfl rfl (at_one (by repeat constructor) (hc_tail (j := 0) rfl (by show 0 + 32 = _; omega))) rfl) (by repeat constructor) (by repeat constructor) rfl ?_
  refine go_val2 rfl (load_val Tk rfl rfl rfl (by first | exact at_pt (by repeat constructor) (by rfl) | exact at_cl 0 (by repeat constructor) (by rfl) | exact at_cl 1 (by repeat constructor) (by rfl) | exact at_cl 2 (by repeat constructor) (by rfl) | exact at_cl 3 (by repeat constructor) (by rfl) | exact at_cl 4 (by repeat constructor) (by rfl) | exact at_cl 5 (by repeat constructor) (by rfl) | exact at_cl 6 (by repeat constructor) (by rfl) | exact at_cl 7 (by repeat constructor) (by rfl)) (by rfl)) (by repeat constructor) (by repeat constructor) rfl ?_
  refine go_call ((indexTm A1 c1 many ⟨true, x⟩).ownl (e := 78)) rfl rfl (by rfl) rfl (by repeat constructor) (by repeat constructor) (fun h => nomatch h) ?_
  rintro _ _ _ ⟨rfl, rfl, rfl⟩
  refine go_pure1 Tk rfl rfl rfl ?_
  refine go_nil ?_
  refine go_env [(0, _), (2, _), (4, _), (9, _)] ⟨rfl, rfl, rfl, rfl, trivial⟩ ?_
  refine go_seq ?_
  refine go_region rfl ?_
  refine go_pure0 Tk rfl rfl rfl ?_
  refine go_pure0 Tk rfl rfl rfl ?_
  refine go_nil ?_
  refine go_env [(0, _), (2, _), (4, _), (9, _), (54, _)] ⟨rfl, rfl, rfl, rfl, rfl, trivial⟩ ?_
  refine go_condD rfl ?_ ?_
  · intro hc1
    obtain ⟨k, e1, e2, e3⟩ := idx_yes hc1
    refine go_re 9 (.int .i64 (k : Int)) (by show some (Value.int _ _) = _; rw [e2]) ?_
    refine go_ol_addr (xs := by_) (by repeat constructor) (by omega) (fun b2 hA => ?_); subst hA
    refine go_seq ?_
    refine go_region rfl ?_
    refine go_pure0 Tk rfl rfl rfl ?_
    refine go_pure0 Tk rfl rfl rfl ?_
    refine go_pure0 Tk rfl rfl rfl ?_
    refine go_val0 rfl (load_val (cs := [.slice (some ⟨b2, 0, none⟩) by_.length c2]) Tk rfl rfl rfl (at_one (by repeat constructor) (hc_tail (j := 1) rfl (by show 0 + 33 = _; omega))) rfl) rfl ?_
    refine go_pure0 Tk rfl rfl rfl ?_
    refine go_val0 rfl (idx_val Tk rfl rfl rfl rfl rfl (by omega)) rfl ?_
    refine go_val0 rfl (load_val (cs := [.int .u32 by_[k]]) Tk rfl rfl rfl (at_ol (fun y : Int => [.int .u32 y]) fc_int 0 (xs := by_) (by repeat constructor) (List.getElem?_eq_getElem (by omega)) rfl) rfl) rfl ?_
    refine go_pure0 Tk rfl rfl rfl ?_
    refine go_pure0 Tk rfl rfl rfl ?_
    refine go_pure0 Tk rfl rfl rfl ?_
    refine go_nil ?_
    refine go_fold [pt b 120 (hc (few) (is) [.slice A1 (many).length c1, .slice (some ⟨b2, 0, none⟩) (by_).length c2]), ol tTm 78 A1 c1 (many), ol tU 28 (some ⟨b2, 0, none⟩) c2 (by_)] (heldO b (σ) (m + 1)) (by repeat constructor) (fun _ _ q => heldO_mk (held_more hk) q) ?_
    refine go_env [(6, _)] ⟨rfl, trivial⟩ ?_
    refine go_ret ⟨rfl, rfl⟩ _ _ (fun a w hp ho hf hs => res1 (by rfl) (.tmp rfl) a w hp ho hf hs) ⟨σ, by rw [show σ x = some by_[k] by rw [← f3, e1]; simp [List.getElem?_eq_getElem (show k < by_.length by omega)]]; simp, fun hs => upd_same (hs.resolve_left (by rw [← f3, e1]; simp [List.getElem?_eq_getElem (show k < by_.length by omega)])), rfl, rfl⟩ (by repeat constructor) (by repeat constructor)
  · intro hc1
    have e1 := idx_no hc1
    refine go_skip ?_
    refine go_seq ?_
    refine go_draw ([cl bt 0 [.bool true, .int .u32 x]]) ([pt b 120 (hc few is [.slice A1 many.length c1, .slice A2 by_.length c2])]) [5, 6, 12] (SL.pre [(1, 0), (1, 1), (1, 2), (1, 3), (1, 4), (1, 9), (1, 10), (1, 11), (1, 13), (2, 5), (2, 6), (2, 12)] (.two (SL.pre [(0, 7)] (.two (SL.pre [(0, 8), (0, 14), (0, 15), (1, 16), (1, 17), (0, 18), (1, 19), (1, 20), (0, 21)] .nil) (SL.pre [(0, 14), (0, 8), (0, 15), (1, 16), (1, 17), (0, 18), (1, 19), (1, 20), (0, 21)] .nil))) (SL.pre [(0, 14), (0, 7), (0, 8), (0, 15), (1, 16), (1, 17), (0, 18), (1, 19), (1, 20), (0, 21)] .nil))) mixed rfl (by kernel_rfl) ?_
    refine go_pure1 Tk rfl rfl rfl ?_
    refine go_pure1 Tk rfl rfl rfl ?_
    refine go_pure1 Tk rfl rfl rfl ?_
    refine go_pure1 Tk rfl rfl rfl ?_
    refine go_pure1 Tk rfl rfl rfl ?_
    refine go_pure1 Tk rfl rfl rfl ?_
    refine go_pure1 Tk rfl rfl rfl ?_
    refine go_pure1 Tk rfl rfl rfl ?_
    refine go_pure1 Tk rfl rfl rfl ?_
    refine go_val2 rfl (load_val (cs := [.slice A1 many.length c1]) Tk rfl rfl rfl (at_one (by repeat constructor) (hc_tail (j := 0) rfl (by show 0 + 32 = _; omega))) rfl) (by repeat constructor) (by repeat constructor) rfl ?_
    refine go_val2 rfl (load_val Tk rfl rfl rfl (by first | exact at_pt (by repeat constructor) (by rfl) | exact at_cl 0 (by repeat constructor) (by rfl) | exact at_cl 1 (by repeat constructor) (by rfl) | exact at_cl 2 (by repeat constructor) (by rfl) | exact at_cl 3 (by repeat constructor) (by rfl) | exact at_cl 4 (by repeat constructor) (by rfl) | exact at_cl 5 (by repeat constructor) (by rfl) | exact at_cl 6 (by repeat constructor) (by rfl) | exact at_cl 7 (by repeat constructor) (by rfl)) (by rfl)) (by repeat constructor) (by repeat constructor) rfl ?_
    refine go_val2 rfl (load_val (cs := [.slice A2 by_.length c2]) Tk rfl rfl rfl (at_one (by repeat constructor) (hc_tail (j := 1) rfl (by show 0 + 33 = _; omega))) rfl) (by repeat constructor) (by repeat constructor) rfl ?_
    refine go_two ?_ ?_
    · skip
      refine go_bslice Tk rfl rfl rfl rfl rfl rfl rfl rfl (fun _ _ => satS (by repeat constructor) (by repeat constructor)) ?_
      intro bm
      refine go_two ?_ ?_
      · skip
        refine go_append1 (T := tTm) (xs := many) Tk (⟨true, x⟩ : Tm) rfl rfl rfl rfl rfl rfl rfl rfl rfl (by repeat constructor) (by repeat constructor) rfl ent_tm (by omega) (fun _ _ _ => satS (by repeat constructor) (by repeat constructor)) ?_
        intro A3 c3
        refine go_bslice Tk rfl rfl rfl rfl rfl rfl rfl rfl (fun _ _ => satS (by repeat constructor) (by repeat constructor)) ?_
        intro bb
        refine go_append1 (T := tU) (xs := by_) Tk n rfl rfl rfl rfl rfl rfl rfl rfl rfl (by repeat constructor) (by repeat constructor) rfl ent_int (by omega) (fun _ _ _ => satS (by repeat constructor) (by repeat constructor)) ?_
        intro A4 c4
        refine go_pure1 Tk rfl rfl rfl ?_
        refine go_pure1 Tk rfl rfl rfl ?_
        refine go_store Tk rfl rfl rfl rfl rfl rfl (by repeat constructor) rfl rfl (hc_put_a (by show 0 + 32 = _; omega)) (fun h => nomatch (Eq.symm h).trans (show _ = false by kernel_rfl)) ?_
        refine go_pure1 Tk rfl rfl rfl ?_
        refine go_pure1 Tk rfl rfl rfl ?_
        refine go_store Tk rfl rfl rfl rfl rfl rfl (by repeat constructor) rfl rfl (hc_put_b (by show 0 + 33 = _; omega)) (fun h => nomatch (Eq.symm h).trans (show _ = false by kernel_rfl)) ?_
        refine go_nil ?_
        refine go_fold [pt b 120 (hc (few) (is) [.slice A3 (many ++ [(⟨true, x⟩ : Tm)]).length c3, .slice A4 (by_ ++ [n]).length c4]), ol tTm 78 A3 c3 (many ++ [(⟨true, x⟩ : Tm)]), ol tU 28 A4 c4 (by_ ++ [n])] (heldO b (upd σ x n) (m + 1)) (by repeat constructor) (fun _ _ q => heldO_mk (held_new hk (by omega) e1 n) q) ?_
        refine go_env [] trivial ?_
        refine go_seq ?_
        refine go_region rfl ?_
        refine go_pure0 Tk rfl rfl rfl ?_
        refine go_nil ?_
        refine go_env [(6, _)] ⟨rfl, trivial⟩ ?_
        refine go_ret ⟨rfl, rfl⟩ _ _ (fun a w hp ho hf hs => res1 (by rfl) (.tmp rfl) a w hp ho hf hs) ⟨upd σ x n, by rw [show σ x = none by rw [← f3, e1]; rfl]; simp, fun _ => rfl, rfl, rfl⟩ (by repeat constructor) (by repeat constructor)
      refine go_bslice Tk rfl rfl rfl rfl rfl rfl rfl rfl (fun _ _ => satS (by repeat constructor) (by repeat constructor)) ?_
      intro bb
      refine go_append1 (T := tTm) (xs := many) Tk (⟨true, x⟩ : Tm) rfl rfl rfl rfl rfl rfl rfl rfl rfl (by repeat constructor) (by repeat constructor) rfl ent_tm (by omega) (fun _ _ _ => satS (by repeat constructor) (by repeat constructor)) ?_
      intro A3 c3
      refine go_append1 (T := tU) (xs := by_) Tk n rfl rfl rfl rfl rfl rfl rfl rfl rfl (by repeat constructor) (by repeat constructor) rfl ent_int (by omega) (fun _ _ _ => satS (by repeat constructor) (by repeat constructor)) ?_
      intro A4 c4
      refine go_pure1 Tk rfl rfl rfl ?_
      refine go_pure1 Tk rfl rfl rfl ?_
      refine go_store Tk rfl rfl rfl rfl rfl rfl (by repeat constructor) rfl rfl (hc_put_a (by show 0 + 32 = _; omega)) (fun h => nomatch (Eq.symm h).trans (show _ = false by kernel_rfl)) ?_
      refine go_pure1 Tk rfl rfl rfl ?_
      refine go_pure1 Tk rfl rfl rfl ?_
      refine go_store Tk rfl rfl rfl rfl rfl rfl (by repeat constructor) rfl rfl (hc_put_b (by show 0 + 33 = _; omega)) (fun h => nomatch (Eq.symm h).trans (show _ = false by kernel_rfl)) ?_
      refine go_nil ?_
      refine go_fold [pt b 120 (hc (few) (is) [.slice A3 (many ++ [(⟨true, x⟩ : Tm)]).length c3, .slice A4 (by_ ++ [n]).length c4]), ol tTm 78 A3 c3 (many ++ [(⟨true, x⟩ : Tm)]), ol tU 28 A4 c4 (by_ ++ [n])] (heldO b (upd σ x n) (m + 1)) (by repeat constructor) (fun _ _ q => heldO_mk (held_new hk (by omega) e1 n) q) ?_
      refine go_env [] trivial ?_
      refine go_seq ?_
      refine go_region rfl ?_
      refine go_pure0 Tk rfl rfl rfl ?_
      refine go_nil ?_
      refine go_env [(6, _)] ⟨rfl, trivial⟩ ?_
      refine go_ret ⟨rfl, rfl⟩ _ _ (fun a w hp ho hf hs => res1 (by rfl) (.tmp rfl) a w hp ho hf hs) ⟨upd σ x n, by rw [show σ x = none by rw [← f3, e1]; rfl]; simp, fun _ => rfl, rfl, rfl⟩ (by repeat constructor) (by repeat constructor)
    refine go_bslice Tk rfl rfl rfl rfl rfl rfl rfl rfl (fun _ _ => satS (by repeat constructor) (by repeat constructor)) ?_
    intro bb
    refine go_bslice Tk rfl rfl rfl rfl rfl rfl rfl rfl (fun _ _ => satS (by repeat constructor) (by repeat constructor)) ?_
    intro bm
    refine go_append1 (T := tTm) (xs := many) Tk (⟨true, x⟩ : Tm) rfl rfl rfl rfl rfl rfl rfl rfl rfl (by repeat constructor) (by repeat constructor) rfl ent_tm (by omega) (fun _ _ _ => satS (by repeat constructor) (by repeat constructor)) ?_
    intro A3 c3
    refine go_append1 (T := tU) (xs := by_) Tk n rfl rfl rfl rfl rfl rfl rfl rfl rfl (by repeat constructor) (by repeat constructor) rfl ent_int (by omega) (fun _ _ _ => satS (by repeat constructor) (by repeat constructor)) ?_
    intro A4 c4
    refine go_pure1 Tk rfl rfl rfl ?_
    refine go_pure1 Tk rfl rfl rfl ?_
    refine go_store Tk rfl rfl rfl rfl rfl rfl (by repeat constructor) rfl rfl (hc_put_a (by show 0 + 32 = _; omega)) (fun h => nomatch (Eq.symm h).trans (show _ = false by kernel_rfl)) ?_
    refine go_pure1 Tk rfl rfl rfl ?_
    refine go_pure1 Tk rfl rfl rfl ?_
    refine go_store Tk rfl rfl rfl rfl rfl rfl (by repeat constructor) rfl rfl (hc_put_b (by show 0 + 33 = _; omega)) (fun h => nomatch (Eq.symm h).trans (show _ = false by kernel_rfl)) ?_
    refine go_nil ?_
    refine go_fold [pt b 120 (hc (few) (is) [.slice A3 (many ++ [(⟨true, x⟩ : Tm)]).length c3, .slice A4 (by_ ++ [n]).length c4]), ol tTm 78 A3 c3 (many ++ [(⟨true, x⟩ : Tm)]), ol tU 28 A4 c4 (by_ ++ [n])] (heldO b (upd σ x n) (m + 1)) (by repeat constructor) (fun _ _ q => heldO_mk (held_new hk (by omega) e1 n) q) ?_
    refine go_env [] trivial ?_
    refine go_seq ?_
    refine go_region rfl ?_
    refine go_pure0 Tk rfl rfl rfl ?_
    refine go_nil ?_
    refine go_env [(6, _)] ⟨rfl, trivial⟩ ?_
    refine go_ret ⟨rfl, rfl⟩ _ _ (fun a w hp ho hf hs => res1 (by rfl) (.tmp rfl) a w hp ho hf hs) ⟨upd σ x n, by rw [show σ x = none by rw [← f3, e1]; rfl]; simp, fun _ => rfl, rfl, rfl⟩ (by repeat constructor) (by repeat constructor)

end Go.Proofs.Ytdkfpgdfjnaciaa.SL
