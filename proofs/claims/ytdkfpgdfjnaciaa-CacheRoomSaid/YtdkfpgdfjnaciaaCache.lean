/- Contracts of functions of the program (Cache): what each call comes to, for the laws' proofs. -/
import Derived.Test.YtdkfpgdfjnaciaaCompare
import Derived.Test.YtdkfpgdfjnaciaaD1
set_option linter.unusedVariables false
set_option linter.unusedSimpArgs false
namespace Go.Proofs.Ytdkfpgdfjnaciaa.SL
open Go 

set_option maxHeartbeats 2000000 in
set_option maxRecDepth 20000 in
theorem cacheOf (p : Int) (A : Option Addr) (c : Nat) (a : List Int) (hn : a.length ≤ 1000) :
    Spec Try.prog 64 #[.agg #[.int .u32 p, .slice A a.length c]] [sl tU A c a] [] (fun v Ps' Os' => v = .agg #[.int .u32 p, .string (bytesOf (enc a))] ∧ Ps' = [] ∧ Os' = []) := by
  refine spec_of (fn := Try.f64) (args := [.agg #[.int .u32 p, .slice A a.length c]]) 33 Try.func64 rfl (by kernel_rfl) Try.ntmps64 (Nat.le_of_ble_eq_true rfl) (fun w0 hp0 hf0 => ?_)
  refine go_seq ?_
  refine go_region ?_
  refine go_box Tk rfl rfl rfl rfl (by rfl) rfl rfl (fun h => nomatch h) ?_
  intro b1
  refine go_alloc Tk rfl rfl rfl (by rfl) rfl rfl (fun h => nomatch h) ?_
  intro b2
  refine go_nil ?_
  refine go_env [(1, _), (2, _)] ⟨rfl, rfl, trivial⟩ ?_
  refine go_seq ?_
  refine go_region ?_
  refine go_pure0 Tk rfl rfl rfl ?_
  refine go_nil ?_
  refine go_env [(1, _), (2, _), (3, _)] ⟨rfl, rfl, rfl, trivial⟩ ?_
  refine go_seq ?_
  refine go_seq ?_
  refine go_len (xs := a) (by repeat constructor) (fun l0 m0 => ?_)
  refine go_region ?_
  refine go_pure0 Tk rfl rfl rfl ?_
  refine go_val0 rfl (load_val Tk rfl rfl rfl (by first | exact at_pt (by repeat constructor) (by rfl) | exact at_cl 0 (by repeat constructor) (by rfl) | exact at_cl 1 (by repeat constructor) (by rfl) | exact at_cl 2 (by repeat constructor) (by rfl) | exact at_cl 3 (by repeat constructor) (by rfl) | exact at_cl 4 (by repeat constructor) (by rfl) | exact at_cl 5 (by repeat constructor) (by rfl) | exact at_cl 6 (by repeat constructor) (by rfl) | exact at_cl 7 (by repeat constructor) (by rfl)) (by rfl)) rfl ?_
  refine go_pure0 Tk rfl rfl rfl ?_
  refine go_pure0 Tk rfl rfl rfl ?_
  refine go_own_nil (tInt .u8) 5 none ?_
  refine go_nil ?_
  refine go_env [(1, _), (2, _), (3, _), (7, _), (8, _), (9, _)] ⟨rfl, rfl, rfl, rfl, rfl, rfl, trivial⟩ ?_
  refine go_block ?_
  refine go_loop' (X := Nat × Option Addr × Nat) (fun x => [(3, .slice x.2.1 (enc (a.take x.1)).length x.2.2), (9, .int .i64 (x.1 : Int))]) [(1, _), (2, _), (7, _), (8, _)] (fun x => [ol (tInt .u8) 5 x.2.1 x.2.2 (enc (a.take x.1))]) (fun x => x.1 ≤ a.length) (fun x => a.length - x.1) ((0, none, 0)) ⟨rfl, rfl, rfl, rfl, rfl, rfl, trivial⟩ (by repeat constructor) (by omega) ?_
  intro ⟨k, A', c'⟩ hk
  simp only at hk ⊢
  refine go_seq ?_
  refine go_region ?_
  refine go_pure0 Tk rfl rfl rfl ?_
  refine go_nil ?_
  refine go_env [(1, _), (2, _), (3, _), (7, _), (8, _), (9, _), (10, _)] ⟨rfl, rfl, rfl, rfl, rfl, rfl, rfl, trivial⟩ ?_
  refine go_seq ?_
  refine go_condD rfl ?_ ?_
  · intro c1
    refine go_skip ?_
    refine go_seq ?_
    refine go_block ?_
    refine go_seq ?_
    refine go_elem_int (xs := a) (by repeat constructor) (k) (List.getElem?_eq_getElem (by omega)) (fun b o hA => ?_); cases hA
    refine go_region ?_
    refine go_val0 rfl (idx_val Tk rfl rfl rfl rfl rfl (by omega)) rfl ?_
    refine go_val0 rfl (load_val Tk rfl rfl rfl (by first | exact at_pt (by repeat constructor) (by rfl) | exact at_cl 0 (by repeat constructor) (by rfl) | exact at_cl 1 (by repeat constructor) (by rfl) | exact at_cl 2 (by repeat constructor) (by rfl) | exact at_cl 3 (by repeat constructor) (by rfl) | exact at_cl 4 (by repeat constructor) (by rfl) | exact at_cl 5 (by repeat constructor) (by rfl) | exact at_cl 6 (by repeat constructor) (by rfl) | exact at_cl 7 (by repeat constructor) (by rfl)) (by rfl)) rfl ?_
    refine go_pure0 Tk rfl rfl rfl ?_
    refine go_nil ?_
    refine go_env [(1, _), (2, _), (3, _), (5, _), (7, _), (8, _), (9, _)] ⟨rfl, rfl, rfl, rfl, rfl, rfl, rfl, trivial⟩ ?_
    refine go_region ?_
    refine go_pure0 Tk rfl rfl rfl ?_
    refine go_pure0 Tk rfl rfl rfl ?_
    refine go_pure0 Tk rfl rfl rfl ?_
    refine go_pure0 Tk rfl rfl rfl ?_
    refine go_pure0 Tk rfl rfl rfl ?_
    refine go_pure0 Tk rfl rfl rfl ?_
    refine go_pure0 Tk rfl rfl rfl ?_
    refine go_pure0 Tk rfl rfl rfl ?_
    refine go_pure0 Tk rfl rfl rfl ?_
    refine go_pure0 Tk rfl rfl rfl ?_
    refine go_pure0 Tk rfl rfl rfl ?_
    refine go_pure0 Tk rfl rfl rfl ?_
    refine go_bslice Tk rfl rfl rfl rfl rfl rfl rfl rfl (fun h => nomatch h) ?_
    intro b3
    refine go_lit_int (kk := .u8) (b4 a[k]) (by repeat constructor) (by rw [b4_len]; omega) ?_
    have hlen : (enc (a.take k)).length ≤ 4000 := by rw [enc_len, List.length_take]; omega
    refine go_appendN (T := tInt .u8) (xs := enc (a.take k)) (ys := b4 a[k]) Tk rfl rfl rfl rfl rfl rfl rfl rfl rfl (by repeat constructor) rfl (by repeat constructor) (by rw [b4_len]; omega) (fun h => nomatch h) ?_
    intro A2 c2
    rw [enc_next (by omega)]
    refine go_pure0 Tk rfl rfl rfl ?_
    refine go_nil ?_
    refine go_env [(1, _), (2, _), (3, _), (7, _), (8, _), (9, _)] ⟨rfl, rfl, rfl, rfl, rfl, rfl, trivial⟩ ?_
    refine go_blk ?_
    refine go_region ?_
    refine go_pure0 Tk rfl rfl rfl ?_
    refine go_pure0 Tk rfl rfl rfl ?_
    refine go_nil ?_
    refine go_i64 9 rfl (by omega) (by omega) ?_
    refine go_back (k + 1, _, _) ⟨rfl, rfl, rfl, rfl, rfl, rfl, trivial⟩ (by repeat constructor) (by repeat constructor) (by show k + 1 ≤ _; omega) (by show a.length - (k + 1) < a.length - k; omega)
  · intro c1
    refine go_exit rfl ?_
    refine go_seq ?_
    rw [List.take_of_length_le (by omega)]
    refine go_region ?_
    refine go_pure0 Tk rfl rfl rfl ?_
    refine go_val0 rfl (load_val Tk rfl rfl rfl (by first | exact at_pt (by repeat constructor) (by rfl) | exact at_cl 0 (by repeat constructor) (by rfl) | exact at_cl 1 (by repeat constructor) (by rfl) | exact at_cl 2 (by repeat constructor) (by rfl) | exact at_cl 3 (by repeat constructor) (by rfl) | exact at_cl 4 (by repeat constructor) (by rfl) | exact at_cl 5 (by repeat constructor) (by rfl) | exact at_cl 6 (by repeat constructor) (by rfl) | exact at_cl 7 (by repeat constructor) (by rfl)) (by rfl)) rfl ?_
    refine go_pure0 Tk rfl rfl rfl ?_
    refine go_val0 rfl (str_val Tk rfl rfl rfl rfl rfl (by repeat constructor)) rfl ?_
    refine go_val0 rfl (fun a w hp ho hf hs => build_val Tk rfl rfl rfl (by rfl) a w hf) rfl ?_
    refine go_store Tk rfl rfl rfl rfl rfl rfl (by repeat constructor) rfl rfl (by rfl) (fun h => nomatch h) ?_
    refine go_nil ?_
    refine go_env [(2, _)] ⟨rfl, trivial⟩ ?_
    refine go_ret _ _ (fun a w hp ho hf hs => res1 (by rfl) (.cell rfl (reads_at Tk rfl (by first | exact at_pt (by repeat constructor) (by rfl) | exact at_cl 0 (by repeat constructor) (by rfl) | exact at_cl 1 (by repeat constructor) (by rfl) | exact at_cl 2 (by repeat constructor) (by rfl) | exact at_cl 3 (by repeat constructor) (by rfl) | exact at_cl 4 (by repeat constructor) (by rfl) | exact at_cl 5 (by repeat constructor) (by rfl) | exact at_cl 6 (by repeat constructor) (by rfl) | exact at_cl 7 (by repeat constructor) (by rfl)) (by rfl))) a w hp ho hf hs) ⟨rfl, rfl, rfl⟩ (by repeat constructor) (by repeat constructor)

set_option maxHeartbeats 2000000 in
set_option maxRecDepth 20000 in
theorem place1 (x : En) (kb : Nat) (q : Fa) (hx : x.1.ok) (hq : q.ok) :
    Spec Try.prog 98 #[.agg #[.int .u32 x.1.p, .string (bytesOf (enc x.1.a)), .int .u8 x.2], .pointer (some ⟨kb, 0, none⟩)] [cl kb 0 [.int .u32 q.p, .string (bytesOf (enc q.a))]] [] (fun v Ps' Os' => v = .bool (decide (x.1 = q)) ∧ Ps' = [] ∧ Os' = []) := by
  refine spec_of (fn := Try.f98) (args := [.agg #[.int .u32 x.1.p, .string (bytesOf (enc x.1.a)), .int .u8 x.2], .pointer (some ⟨kb, 0, none⟩)]) 8 Try.func98 rfl (by kernel_rfl) Try.ntmps98 (Nat.le_of_ble_eq_true rfl) (fun w0 hp0 hf0 => ?_)
  refine go_seq ?_
  refine go_region ?_
  refine go_box Tk rfl rfl rfl rfl (by rfl) rfl rfl (fun h => nomatch h) ?_
  intro b1
  refine go_pure0 Tk rfl rfl rfl ?_
  refine go_nil ?_
  refine go_env [(1, _), (2, _)] ⟨rfl, rfl, trivial⟩ ?_
  refine go_seq ?_
  refine go_region ?_
  refine go_pure0 Tk rfl rfl rfl ?_
  refine go_val0 rfl (load_val Tk rfl rfl rfl (by first | exact at_pt (by repeat constructor) (by rfl) | exact at_cl 0 (by repeat constructor) (by rfl) | exact at_cl 1 (by repeat constructor) (by rfl) | exact at_cl 2 (by repeat constructor) (by rfl) | exact at_cl 3 (by repeat constructor) (by rfl) | exact at_cl 4 (by repeat constructor) (by rfl) | exact at_cl 5 (by repeat constructor) (by rfl) | exact at_cl 6 (by repeat constructor) (by rfl) | exact at_cl 7 (by repeat constructor) (by rfl)) (by rfl)) rfl ?_
  refine go_val0 rfl (load_val Tk rfl rfl rfl (by first | exact at_pt (by repeat constructor) (by rfl) | exact at_cl 0 (by repeat constructor) (by rfl) | exact at_cl 1 (by repeat constructor) (by rfl) | exact at_cl 2 (by repeat constructor) (by rfl) | exact at_cl 3 (by repeat constructor) (by rfl) | exact at_cl 4 (by repeat constructor) (by rfl) | exact at_cl 5 (by repeat constructor) (by rfl) | exact at_cl 6 (by repeat constructor) (by rfl) | exact at_cl 7 (by repeat constructor) (by rfl)) (by rfl)) rfl ?_
  refine go_val0 rfl (seq_val Tk rfl rfl rfl rfl (by rfl) rfl (by kernel_rfl) (by kernel_rfl)) rfl ?_
  refine go_pure0 Tk rfl rfl rfl ?_
  refine go_nil ?_
  refine go_env [(3, _)] ⟨rfl, trivial⟩ ?_
  refine go_ret _ _ (fun a w hp ho hf hs => res1 (by rfl) (.tmp rfl) a w hp ho hf hs) ⟨congrArg Value.bool (key_eq hx hq), rfl, rfl⟩ (by repeat constructor) (by repeat constructor)

set_option maxHeartbeats 2000000 in
set_option maxRecDepth 20000 in
theorem indexEn (A : Option Addr) (c : Nat) (l : List En) (kb : Nat) (q : Fa) (hl : ∀ x ∈ l, x.1.ok) (hq : q.ok) :
    Spec Try.prog 97 #[.slice A l.length c, .func (.func 98) #[] #[.pointer (some ⟨kb, 0, none⟩)]] [cl kb 0 [.int .u32 q.p, .string (bytesOf (enc q.a))]] [ol tEn 101 A c l] (fun v Ps' Os' => v = .int .i64 (plc q l) ∧ Ps' = [] ∧ Os' = [ol tEn 101 A c l]) := by
  refine spec_of (fn := Try.f97) (args := [.slice A l.length c, .func (.func 98) #[] #[.pointer (some ⟨kb, 0, none⟩)]]) 19 Try.func97 rfl (by kernel_rfl) Try.ntmps97 (Nat.le_of_ble_eq_true rfl) (fun w0 hp0 hf0 => ?_)
  refine go_seq ?_
  refine go_len_ol (xs := l) (by repeat constructor) (fun l0 m0 => ?_)
  refine go_region ?_
  refine go_pure0 Tk rfl rfl rfl ?_
  refine go_nil ?_
  refine go_env [(0, _), (1, _)] ⟨rfl, rfl, trivial⟩ ?_
  refine go_seq ?_
  refine go_seq ?_
  refine go_region ?_
  refine go_pure0 Tk rfl rfl rfl ?_
  refine go_pure0 Tk rfl rfl rfl ?_
  refine go_pure0 Tk rfl rfl rfl ?_
  refine go_nil ?_
  refine go_env [(0, _), (1, _), (7, _), (8, _)] ⟨rfl, rfl, rfl, rfl, trivial⟩ ?_
  refine go_block ?_
  refine go_loop' (X := Nat) (fun k => [(8, .int .i64 (k : Int))]) [(0, _), (1, _), (7, _)] (fun _ => []) (fun k => k ≤ l.length ∧ ∀ x ∈ l.take k, ¬ x.1 = q) (fun k => l.length - k) (0) ⟨rfl, rfl, rfl, rfl, trivial⟩ (by repeat constructor) ⟨by omega, by simp⟩ ?_
  intro k ⟨hk, hz⟩
  refine go_seq ?_
  refine go_region ?_
  refine go_pure0 Tk rfl rfl rfl ?_
  refine go_nil ?_
  refine go_env [(0, _), (1, _), (7, _), (8, _), (9, _)] ⟨rfl, rfl, rfl, rfl, rfl, trivial⟩ ?_
  refine go_seq ?_
  refine go_condD rfl ?_ ?_
  · intro c1
    refine go_skip ?_
    refine go_seq ?_
    refine go_block ?_
    refine go_seq ?_
    refine go_region ?_
    refine go_pure0 Tk rfl rfl rfl ?_
    refine go_pure0 Tk rfl rfl rfl ?_
    refine go_nil ?_
    refine go_env [(0, _), (1, _), (5, _), (7, _), (8, _)] ⟨rfl, rfl, rfl, rfl, rfl, trivial⟩ ?_
    refine go_seq ?_
    refine go_ol_open (xs := l) (by repeat constructor) (by omega) (fun b cs cur hA h1 h2 h3 h4 h5 => ?_); cases hA
    refine go_rps_at (by repeat constructor) k (List.getElem?_eq_getElem (by omega)) (fun ds d1 d2 => ?_)
    refine go_rp (ds = _) (by repeat constructor) (fun _ h => h) (fun hd => ?_); subst hd
    refine go_region ?_
    refine go_pure0 Tk rfl rfl rfl ?_
    refine go_pure0 Tk rfl rfl rfl ?_
    refine go_pure0 Tk rfl rfl rfl ?_
    refine go_val0 rfl (idx_val Tk rfl rfl rfl rfl rfl (by omega)) rfl ?_
    refine go_val0 rfl (load_val Tk rfl rfl rfl (at_row 0 (by repeat constructor) h2 d2 rfl) rfl) rfl ?_
    refine go_ol_close l (by repeat constructor) (by repeat constructor) h1 h2 h3 h4 ?_
    refine go_call (place1 l[k] kb q (hl _ (List.getElem_mem _)) hq) rfl rfl (by rfl) rfl (by repeat constructor) (by repeat constructor) (fun h => nomatch h) ?_
    rintro _ _ _ ⟨rfl, rfl, rfl⟩
    refine go_nil ?_
    refine go_env [(0, _), (1, _), (5, _), (7, _), (8, _), (16, _)] ⟨rfl, rfl, rfl, rfl, rfl, rfl, trivial⟩ ?_
    refine go_cond rfl ?_ ?_
    · intro c2
      (try simp only [decide_eq_true_eq, decide_eq_false_iff_not, Bool.not_eq_true', Bool.not_eq_false', Bool.not_eq_eq_eq_not, Bool.not_true, Bool.not_false, Int.not_lt, Int.not_le, beq_iff_eq, beq_eq_false_iff_ne, ne_eq] at c2)
      refine go_seq ?_
      refine go_region ?_
      refine go_pure0 Tk rfl rfl rfl ?_
      refine go_pure0 Tk rfl rfl rfl ?_
      refine go_nil ?_
      refine go_env [(4, _)] ⟨rfl, trivial⟩ ?_
      refine go_ret _ _ (fun a w hp ho hf hs => res1 (by rfl) (.tmp rfl) a w hp ho hf hs) ⟨congrArg (Value.int .i64) (plc_hit (by omega) hz c2).symm, rfl, rfl⟩ (by repeat constructor) (by repeat constructor)
    · intro c2
      (try simp only [decide_eq_true_eq, decide_eq_false_iff_not, Bool.not_eq_true', Bool.not_eq_false', Bool.not_eq_eq_eq_not, Bool.not_true, Bool.not_false, Int.not_lt, Int.not_le, beq_iff_eq, beq_eq_false_iff_ne, ne_eq] at c2)
      refine go_skip ?_
      refine go_blk ?_
      refine go_region ?_
      refine go_pure0 Tk rfl rfl rfl ?_
      refine go_pure0 Tk rfl rfl rfl ?_
      refine go_nil ?_
      refine go_i64 8 rfl (by omega) (by omega) ?_
      refine go_back (k + 1) ⟨rfl, rfl, rfl, rfl, trivial⟩ (by repeat constructor) (by repeat constructor) ⟨by omega, mem_take_next (by omega) hz c2⟩ (by omega)
  · intro c1
    refine go_exit rfl ?_
    refine go_seq ?_
    refine go_region ?_
    refine go_pure0 Tk rfl rfl rfl ?_
    refine go_nil ?_
    refine go_env [(4, _)] ⟨rfl, trivial⟩ ?_
    refine go_ret _ _ (fun a w hp ho hf hs => res1 (by rfl) (.tmp rfl) a w hp ho hf hs) ⟨congrArg (Value.int .i64) (plc_none (by rw [List.take_of_length_le (by omega)] at hz; exact hz)).symm, rfl, rfl⟩ (by repeat constructor) (by repeat constructor)

set_option maxHeartbeats 2000000 in
set_option maxRecDepth 20000 in
theorem place (b : Nat) (R : Int) (A : Option Addr) (c : Nat) (l : List En) (q : Fa) (hl : ∀ x ∈ l, x.1.ok) (hq : q.ok) :
    Spec Try.prog 65 #[.pointer (some ⟨b, 1, none⟩), .agg #[.int .u32 q.p, .string (bytesOf (enc q.a))]] [] [pt b 94 [.int .i64 R, .slice A (l).length c], ol tEn 101 A c (l)] (fun v Ps' Os' => v = .int .i64 (plc q l) ∧ Ps' = [] ∧ Os' = [pt b 94 [.int .i64 R, .slice A (l).length c], ol tEn 101 A c (l)]) := by
  refine spec_of (fn := Try.f65) (args := [.pointer (some ⟨b, 1, none⟩), .agg #[.int .u32 q.p, .string (bytesOf (enc q.a))]]) 11 Try.func65 rfl (by kernel_rfl) Try.ntmps65 (Nat.le_of_ble_eq_true rfl) (fun w0 hp0 hf0 => ?_)
  refine go_seq ?_
  refine go_region ?_
  refine go_box Tk rfl rfl rfl rfl (by rfl) rfl rfl (fun h => nomatch h) ?_
  intro b1
  refine go_freeze_pt (b := b1) (by repeat constructor) ?_
  refine go_pure0 Tk rfl rfl rfl ?_
  refine go_nil ?_
  refine go_env [(0, _), (3, _)] ⟨rfl, rfl, trivial⟩ ?_
  refine go_seq ?_
  refine go_region ?_
  refine go_pure0 Tk rfl rfl rfl ?_
  refine go_pure0 Tk rfl rfl rfl ?_
  refine go_pure0 Tk rfl rfl rfl ?_
  refine go_val0 rfl (load_val Tk rfl rfl rfl (by first | exact at_pt (by repeat constructor) (by rfl) | exact at_cl 0 (by repeat constructor) (by rfl) | exact at_cl 1 (by repeat constructor) (by rfl) | exact at_cl 2 (by repeat constructor) (by rfl) | exact at_cl 3 (by repeat constructor) (by rfl) | exact at_cl 4 (by repeat constructor) (by rfl) | exact at_cl 5 (by repeat constructor) (by rfl) | exact at_cl 6 (by repeat constructor) (by rfl) | exact at_cl 7 (by repeat constructor) (by rfl)) (by rfl)) rfl ?_
  refine go_pure0 Tk rfl rfl rfl ?_
  refine go_call (indexEn A c l b1 q hl hq) rfl rfl (by rfl) rfl (by repeat constructor) (by repeat constructor) (fun h => nomatch h) ?_
  rintro _ _ _ ⟨rfl, rfl, rfl⟩
  refine go_pure0 Tk rfl rfl rfl ?_
  refine go_nil ?_
  refine go_env [(4, _)] ⟨rfl, trivial⟩ ?_
  refine go_ret _ _ (fun a w hp ho hf hs => res1 (by rfl) (.tmp rfl) a w hp ho hf hs) ⟨rfl, rfl, rfl⟩ (by repeat constructor) (by repeat constructor)

set_option maxHeartbeats 2000000 in
set_option maxRecDepth 20000 in
theorem deleteEn (A : Option Addr) (c : Nat) (l : List En) (i j : Nat) (hi : i ≤ j) (hj : j ≤ l.length) :
    Spec Try.prog 96 #[.slice A l.length c, .int .i64 (i : Int), .int .i64 (j : Int)] [] [ol tEn 101 A c l] (fun v Ps' Os' => v = .slice A (l.take i ++ l.drop j).length c ∧ Ps' = [] ∧ Os' = [ol tEn 101 A c (l.take i ++ l.drop j)]) := by
  refine spec_of (fn := Try.f96) (args := [.slice A l.length c, .int .i64 (i : Int), .int .i64 (j : Int)]) 33 Try.func96 rfl (by kernel_rfl) Try.ntmps96 (Nat.le_of_ble_eq_true rfl) (fun w0 hp0 hf0 => ?_)
  refine go_seq ?_
  refine go_len_ol (xs := l) (by repeat constructor) (fun l0 m0 => ?_)
  refine go_region ?_
  refine go_pure0 Tk rfl rfl rfl ?_
  refine go_nil ?_
  refine go_env [(0, _), (1, _), (2, _)] ⟨rfl, rfl, rfl, trivial⟩ ?_
  refine go_seq ?_
  refine go_region ?_
  refine go_pure0 Tk rfl rfl rfl ?_
  refine go_pure0 Tk rfl rfl rfl ?_
  refine go_pure0 Tk rfl rfl rfl ?_
  refine go_pure0 Tk rfl rfl rfl ?_
  refine go_pure0 Tk rfl rfl rfl ?_
  refine go_val0 rfl (slice_val' Tk rfl rfl rfl rfl i j l.length _ (by first | rfl | exact ⟨_, rfl⟩ | exact ⟨rfl, rfl⟩) (by first | rfl | exact ⟨_, rfl⟩ | exact ⟨rfl, rfl⟩) (by first | rfl | exact ⟨_, rfl⟩ | exact ⟨rfl, rfl⟩) hi hj (by omega) rfl) rfl ?_
  refine go_nil ?_
  refine go_env [(0, _), (1, _), (2, _)] ⟨rfl, rfl, rfl, trivial⟩ ?_
  refine go_seq ?_
  refine go_seq ?_
  refine go_region ?_
  refine go_pure0 Tk rfl rfl rfl ?_
  refine go_pure0 Tk rfl rfl rfl ?_
  refine go_pure0 Tk rfl rfl rfl ?_
  refine go_nil ?_
  refine go_env [(0, _), (1, _), (2, _), (16, _)] ⟨rfl, rfl, rfl, rfl, trivial⟩ ?_
  refine go_condD rfl ?_ ?_
  · intro c1
    obtain rfl : i = j := by omega
    rw [List.take_append_drop]
    refine go_seq ?_
    refine go_region ?_
    refine go_pure0 Tk rfl rfl rfl ?_
    refine go_pure0 Tk rfl rfl rfl ?_
    refine go_nil ?_
    refine go_env [(6, _)] ⟨rfl, trivial⟩ ?_
    refine go_ret _ _ (fun a w hp ho hf hs => res1 (by rfl) (.tmp rfl) a w hp ho hf hs) ⟨rfl, rfl, rfl⟩ (by repeat constructor) (by repeat constructor)
  · intro c1
    refine go_skip ?_
    refine go_seq ?_
    refine go_region ?_
    refine go_pure0 Tk rfl rfl rfl ?_
    refine go_pure0 Tk rfl rfl rfl ?_
    refine go_pure0 Tk rfl rfl rfl ?_
    refine go_nil ?_
    refine go_env [(0, _), (1, _), (2, _), (7, _)] ⟨rfl, rfl, rfl, rfl, trivial⟩ ?_
    refine go_seq ?_
    refine go_ol_open (xs := l) (by repeat constructor) (by omega) (fun b cs cur hA h1 h2 h3 h4 h5 => ?_); cases hA
    refine go_draw'  [] (pre [(1, 0), (1, 1), (1, 2), (1, 3), (1, 4), (1, 5), (0, 6), (1, 7)] .nil) mixed (by kernel_rfl) ?_
    refine go_pure1 Tk rfl rfl rfl ?_
    refine go_pure1 Tk rfl rfl rfl ?_
    refine go_val1 rfl (slice_val' Tk rfl rfl rfl rfl 0 i c (.slice (some ⟨b, 0, none⟩) i c) (by first | rfl | exact ⟨_, rfl⟩ | exact ⟨rfl, rfl⟩) (by first | rfl | exact ⟨_, rfl⟩ | exact ⟨rfl, rfl⟩) (by first | rfl | exact ⟨_, rfl⟩ | exact ⟨rfl, rfl⟩) (by omega) (by omega) (by omega) (by rw [sub0]; rfl)) rfl ?_
    refine go_pure1 Tk rfl rfl rfl ?_
    refine go_pure1 Tk rfl rfl rfl ?_
    refine go_val1 rfl (slice_val' Tk rfl rfl rfl rfl j l.length c (.slice (some ⟨b, (if c = j then 0 else 0 + j * (tEn).size), none⟩) (l.length - j) (c - j)) (by first | rfl | exact ⟨_, rfl⟩ | exact ⟨rfl, rfl⟩) (by first | rfl | exact ⟨_, rfl⟩ | exact ⟨rfl, rfl⟩) (by first | rfl | exact ⟨_, rfl⟩ | exact ⟨rfl, rfl⟩) (by omega) (by omega) (by omega) (by split <;> simp_all [run_addOff] <;> rfl)) rfl ?_
    refine go_fact (rps tEn l cs) (by repeat constructor) (fun _ q => Reps.one q) (fun hone => ?_)
    refine go_append_in Tk rfl rfl rfl rfl rfl rfl rfl (by repeat constructor) (m := l.length - j) (news := cs.drop (j * (tEn).size)) (at_any (by repeat constructor) (by rw [List.length_drop, h5, Nat.sub_mul]; rfl) (cut_news h2 _ (by split <;> omega))) (oneCells_drop _ hone) (by omega) h1 (fun h => nomatch h) ?_
    refine go_pure1 Tk rfl rfl rfl ?_
    refine go_nil ?_
    refine go_env [(0, _), (7, _)] ⟨rfl, rfl, trivial⟩ ?_
    refine go_seq ?_
    refine go_region ?_
    refine go_pure0 Tk rfl rfl rfl ?_
    refine go_pure0 Tk rfl rfl rfl ?_
    refine go_pure0 Tk rfl rfl rfl ?_
    refine go_pure0 Tk rfl rfl rfl ?_
    refine go_val0 rfl (slice_val' Tk rfl rfl rfl rfl (i + (l.length - j)) l.length c (.slice (some ⟨b, 0 + (i + (l.length - j)) * (tEn).size, none⟩) (l.length - (i + (l.length - j))) (c - (i + (l.length - j)))) (by first | rfl | exact ⟨_, rfl⟩ | exact ⟨rfl, rfl⟩) (by first | rfl | exact ⟨_, rfl⟩ | exact ⟨rfl, rfl⟩) (by first | rfl | exact ⟨_, rfl⟩ | exact ⟨rfl, rfl⟩) (by omega) (by omega) (by omega) (by rw [subN (by omega)]; rfl)) rfl ?_
    refine go_clear Tk rfl rfl rfl rfl rfl rfl rfl rfl (by repeat constructor) (by rw [Nat.zero_add]; exact (cut_take (zs := List.replicate ((l.length - (i + (l.length - j))) * (tEn).size) default) h1 h2 h3 hi hj (by simp) _ rfl).2.2) (fun h => nomatch h) ?_
    intro zs hzs
    have hcs := cut_take h1 h2 h3 hi hj hzs _ (Nat.zero_add _)
    have hlen : (l.take i ++ l.drop j).length = i + (l.length - j) := by simp; omega
    refine go_rps _ (xs := l) (by repeat constructor) (fun _ q => q.cut (i := i) (j := j) (by omega) hj) ?_
    refine go_ol_close (l.take i ++ l.drop j) (by repeat constructor) (by repeat constructor) hcs.2.1 (by rw [hlen]; exact hcs.1) (by omega) h4 ?_
    rw [← hlen]
    refine go_nil ?_
    refine go_env [(0, _)] ⟨rfl, trivial⟩ ?_
    refine go_seq ?_
    refine go_region ?_
    refine go_pure0 Tk rfl rfl rfl ?_
    refine go_pure0 Tk rfl rfl rfl ?_
    refine go_nil ?_
    refine go_env [(6, _)] ⟨rfl, trivial⟩ ?_
    refine go_ret _ _ (fun a w hp ho hf hs => res1 (by rfl) (.tmp rfl) a w hp ho hf hs) ⟨rfl, rfl, rfl⟩ (by repeat constructor) (by repeat constructor)

end Go.Proofs.Ytdkfpgdfjnaciaa.SL
