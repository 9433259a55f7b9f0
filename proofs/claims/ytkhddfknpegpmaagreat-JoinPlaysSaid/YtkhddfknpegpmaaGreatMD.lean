/- Engine, data and contracts: parts of the proof, put together (Cmp Compare Rel Relb Relins Relput Relp Matchs Matcht Matchr Relq Refrel Refrelb Relr). -/
import Derived.Test.YtkhddfknpegpmaaGreatMC
import Derived.Test.YtkhddfknpegpmaaGreatMB
/- Contracts of functions of the program (Cmp): what each call comes to, for the laws' proofs. -/
set_option linter.unusedVariables false
set_option linter.unusedSimpArgs false
namespace Go.Proofs.YtkhddfknpegpmaaGreat.SL
open Go 

set_option maxHeartbeats 2000000 in
set_option maxRecDepth 20000 in
theorem isNaN_u32 (x : Int) :
    Spec Tryz.prog 102 #[.int .u32 x] [] [] (fun v Ps' Os' => v = .bool false ∧ Ps' = [] ∧ Os' = []) := by
 refine spec_of (fn := Tryz.f102) (args := [.int .u32 x]) 6 Tryz.func102 rfl (by kernel_rfl) Tryz.ntmps102 (Nat.le_of_ble_eq_true rfl) (fun w0 hp0 hf0 => ?_)
 refine go_seq ?_
 refine go_region rfl ?_
 refine go_pure0 Tk rfl rfl rfl ?_
 refine go_nil ?_
 refine go_env [(0, _)] ⟨rfl, trivial⟩ ?_
 refine go_seq ?_
 refine go_region rfl ?_
 refine go_pure0 Tk rfl rfl rfl ?_
 refine go_pure0 Tk rfl rfl rfl ?_
 refine go_pure0 Tk rfl rfl rfl ?_
 refine go_pure0 Tk rfl rfl rfl ?_
 refine go_nil ?_
 refine go_env [(2, _)] ⟨rfl, trivial⟩ ?_
 refine go_ret ⟨rfl, rfl⟩ _ _ (res1 (by rfl) (.tmp rfl)) ⟨by simp, rfl, rfl⟩ (by repeat constructor) (by repeat constructor)

set_option maxHeartbeats 2000000 in
set_option maxRecDepth 20000 in
theorem compare_u32 (x y : Int) :
    Spec Tryz.prog 87 #[.int .u32 x, .int .u32 y] [] [] (fun v Ps' Os' => v = .int .i64 (if x < y then -1 else if y < x then 1 else 0) ∧ Ps' = [] ∧ Os' = []) := by
 refine spec_of (fn := Tryz.f87) (args := [.int .u32 x, .int .u32 y]) 20 Tryz.func87 rfl (by kernel_rfl) Tryz.ntmps87 (Nat.le_of_ble_eq_true rfl) (fun w0 hp0 hf0 => ?_)
 refine go_seq ?_
 refine go_region rfl ?_
 refine go_pure0 Tk rfl rfl rfl ?_
 refine go_nil ?_
 refine go_env [(0, _), (1, _)] ⟨rfl, rfl, trivial⟩ ?_
 refine go_seq ?_
 refine go_region rfl ?_
 refine go_pure0 Tk rfl rfl rfl ?_
 refine go_call (isNaN_u32 _) rfl rfl (by rfl) rfl (by repeat constructor) (by repeat constructor) (fun h => nomatch h) ?_
 rintro _ _ _ ⟨rfl, rfl, rfl⟩
 refine go_pure0 Tk rfl rfl rfl ?_
 refine go_nil ?_
 refine go_env [(0, _), (1, _), (5, _)] ⟨rfl, rfl, rfl, trivial⟩ ?_
 refine go_seq ?_
 refine go_region rfl ?_
 refine go_pure0 Tk rfl rfl rfl ?_
 refine go_call (isNaN_u32 _) rfl rfl (by rfl) rfl (by repeat constructor) (by repeat constructor) (fun h => nomatch h) ?_
 rintro _ _ _ ⟨rfl, rfl, rfl⟩
 refine go_pure0 Tk rfl rfl rfl ?_
 refine go_nil ?_
 refine go_env [(0, _), (1, _), (5, _), (6, _)] ⟨rfl, rfl, rfl, rfl, trivial⟩ ?_
 refine go_seq ?_
 refine go_seq ?_
 refine go_region rfl ?_
 refine go_pure0 Tk rfl rfl rfl ?_
 refine go_nil ?_
 refine go_env [(0, _), (1, _), (6, _), (11, _)] ⟨rfl, rfl, rfl, rfl, trivial⟩ ?_
 refine go_cond_f rfl ?_
 refine go_skip ?_
 refine go_seq ?_
 refine go_seq ?_
 refine go_region rfl ?_
 refine go_pure0 Tk rfl rfl rfl ?_
 refine go_nil ?_
 refine go_env [(0, _), (1, _), (13, _)] ⟨rfl, rfl, rfl, trivial⟩ ?_
 refine go_cond_f rfl ?_
 refine go_skip ?_
 refine go_seq ?_
 refine go_seq ?_
 refine go_region rfl ?_
 refine go_pure0 Tk rfl rfl rfl ?_
 refine go_pure0 Tk rfl rfl rfl ?_
 refine go_pure0 Tk rfl rfl rfl ?_
 refine go_nil ?_
 refine go_env [(0, _), (1, _), (16, _)] ⟨rfl, rfl, rfl, trivial⟩ ?_
 refine go_condD rfl ?_ ?_
 ·intro c1
  refine go_seq ?_
  refine go_region rfl ?_
  refine go_pure0 Tk rfl rfl rfl ?_
  refine go_nil ?_
  refine go_env [(4, _)] ⟨rfl, trivial⟩ ?_
  refine go_ret ⟨rfl, rfl⟩ _ _ (res1 (by rfl) (.tmp rfl)) ⟨by first | rw [if_pos (by omega)] | rw [if_neg (by omega), if_pos (by omega)] | rw [if_neg (by omega), if_neg (by omega)], rfl, rfl⟩ (by repeat constructor) (by repeat constructor)
 ·intro c1
  refine go_skip ?_
  refine go_seq ?_
  refine go_seq ?_
  refine go_region rfl ?_
  refine go_pure0 Tk rfl rfl rfl ?_
  refine go_pure0 Tk rfl rfl rfl ?_
  refine go_pure0 Tk rfl rfl rfl ?_
  refine go_nil ?_
  refine go_env [(19, _)] ⟨rfl, trivial⟩ ?_
  refine go_condD rfl ?_ ?_
  ·intro c2
   refine go_seq ?_
   refine go_region rfl ?_
   refine go_pure0 Tk rfl rfl rfl ?_
   refine go_nil ?_
   refine go_env [(4, _)] ⟨rfl, trivial⟩ ?_
   refine go_ret ⟨rfl, rfl⟩ _ _ (res1 (by rfl) (.tmp rfl)) ⟨by first | rw [if_pos (by omega)] | rw [if_neg (by omega), if_pos (by omega)] | rw [if_neg (by omega), if_neg (by omega)], rfl, rfl⟩ (by repeat constructor) (by repeat constructor)
  ·intro c2
   refine go_skip ?_
   refine go_seq ?_
   refine go_region rfl ?_
   refine go_pure0 Tk rfl rfl rfl ?_
   refine go_nil ?_
   refine go_env [(4, _)] ⟨rfl, trivial⟩ ?_
   refine go_ret ⟨rfl, rfl⟩ _ _ (res1 (by rfl) (.tmp rfl)) ⟨by first | rw [if_pos (by omega)] | rw [if_neg (by omega), if_pos (by omega)] | rw [if_neg (by omega), if_neg (by omega)], rfl, rfl⟩ (by repeat constructor) (by repeat constructor)

set_option maxHeartbeats 2000000 in
set_option maxRecDepth 20000 in
theorem isNaN_i64 (x : Int) :
    Spec Tryz.prog 103 #[.int .i64 x] [] [] (fun v Ps' Os' => v = .bool false ∧ Ps' = [] ∧ Os' = []) := by
 refine spec_of (fn := Tryz.f103) (args := [.int .i64 x]) 6 Tryz.func103 rfl (by kernel_rfl) Tryz.ntmps103 (Nat.le_of_ble_eq_true rfl) (fun w0 hp0 hf0 => ?_)
 refine go_seq ?_
 refine go_region rfl ?_
 refine go_pure0 Tk rfl rfl rfl ?_
 refine go_nil ?_
 refine go_env [(0, _)] ⟨rfl, trivial⟩ ?_
 refine go_seq ?_
 refine go_region rfl ?_
 refine go_pure0 Tk rfl rfl rfl ?_
 refine go_pure0 Tk rfl rfl rfl ?_
 refine go_pure0 Tk rfl rfl rfl ?_
 refine go_pure0 Tk rfl rfl rfl ?_
 refine go_nil ?_
 refine go_env [(2, _)] ⟨rfl, trivial⟩ ?_
 refine go_ret ⟨rfl, rfl⟩ _ _ (res1 (by rfl) (.tmp rfl)) ⟨by simp, rfl, rfl⟩ (by repeat constructor) (by repeat constructor)

set_option maxHeartbeats 2000000 in
set_option maxRecDepth 20000 in
theorem compare_i64 (x y : Int) :
    Spec Tryz.prog 88 #[.int .i64 x, .int .i64 y] [] [] (fun v Ps' Os' => v = .int .i64 (if x < y then -1 else if y < x then 1 else 0) ∧ Ps' = [] ∧ Os' = []) := by
 refine spec_of (fn := Tryz.f88) (args := [.int .i64 x, .int .i64 y]) 20 Tryz.func88 rfl (by kernel_rfl) Tryz.ntmps88 (Nat.le_of_ble_eq_true rfl) (fun w0 hp0 hf0 => ?_)
 refine go_seq ?_
 refine go_region rfl ?_
 refine go_pure0 Tk rfl rfl rfl ?_
 refine go_nil ?_
 refine go_env [(0, _), (1, _)] ⟨rfl, rfl, trivial⟩ ?_
 refine go_seq ?_
 refine go_region rfl ?_
 refine go_pure0 Tk rfl rfl rfl ?_
 refine go_call (isNaN_i64 _) rfl rfl (by rfl) rfl (by repeat constructor) (by repeat constructor) (fun h => nomatch h) ?_
 rintro _ _ _ ⟨rfl, rfl, rfl⟩
 refine go_pure0 Tk rfl rfl rfl ?_
 refine go_nil ?_
 refine go_env [(0, _), (1, _), (5, _)] ⟨rfl, rfl, rfl, trivial⟩ ?_
 refine go_seq ?_
 refine go_region rfl ?_
 refine go_pure0 Tk rfl rfl rfl ?_
 refine go_call (isNaN_i64 _) rfl rfl (by rfl) rfl (by repeat constructor) (by repeat constructor) (fun h => nomatch h) ?_
 rintro _ _ _ ⟨rfl, rfl, rfl⟩
 refine go_pure0 Tk rfl rfl rfl ?_
 refine go_nil ?_
 refine go_env [(0, _), (1, _), (5, _), (6, _)] ⟨rfl, rfl, rfl, rfl, trivial⟩ ?_
 refine go_seq ?_
 refine go_seq ?_
 refine go_region rfl ?_
 refine go_pure0 Tk rfl rfl rfl ?_
 refine go_nil ?_
 refine go_env [(0, _), (1, _), (6, _), (11, _)] ⟨rfl, rfl, rfl, rfl, trivial⟩ ?_
 refine go_cond_f rfl ?_
 refine go_skip ?_
 refine go_seq ?_
 refine go_seq ?_
 refine go_region rfl ?_
 refine go_pure0 Tk rfl rfl rfl ?_
 refine go_nil ?_
 refine go_env [(0, _), (1, _), (13, _)] ⟨rfl, rfl, rfl, trivial⟩ ?_
 refine go_cond_f rfl ?_
 refine go_skip ?_
 refine go_seq ?_
 refine go_seq ?_
 refine go_region rfl ?_
 refine go_pure0 Tk rfl rfl rfl ?_
 refine go_pure0 Tk rfl rfl rfl ?_
 refine go_pure0 Tk rfl rfl rfl ?_
 refine go_nil ?_
 refine go_env [(0, _), (1, _), (16, _)] ⟨rfl, rfl, rfl, trivial⟩ ?_
 refine go_condD rfl ?_ ?_
 ·intro c1
  refine go_seq ?_
  refine go_region rfl ?_
  refine go_pure0 Tk rfl rfl rfl ?_
  refine go_nil ?_
  refine go_env [(4, _)] ⟨rfl, trivial⟩ ?_
  refine go_ret ⟨rfl, rfl⟩ _ _ (res1 (by rfl) (.tmp rfl)) ⟨by first | rw [if_pos (by omega)] | rw [if_neg (by omega), if_pos (by omega)] | rw [if_neg (by omega), if_neg (by omega)], rfl, rfl⟩ (by repeat constructor) (by repeat constructor)
 ·intro c1
  refine go_skip ?_
  refine go_seq ?_
  refine go_seq ?_
  refine go_region rfl ?_
  refine go_pure0 Tk rfl rfl rfl ?_
  refine go_pure0 Tk rfl rfl rfl ?_
  refine go_pure0 Tk rfl rfl rfl ?_
  refine go_nil ?_
  refine go_env [(19, _)] ⟨rfl, trivial⟩ ?_
  refine go_condD rfl ?_ ?_
  ·intro c2
   refine go_seq ?_
   refine go_region rfl ?_
   refine go_pure0 Tk rfl rfl rfl ?_
   refine go_nil ?_
   refine go_env [(4, _)] ⟨rfl, trivial⟩ ?_
   refine go_ret ⟨rfl, rfl⟩ _ _ (res1 (by rfl) (.tmp rfl)) ⟨by first | rw [if_pos (by omega)] | rw [if_neg (by omega), if_pos (by omega)] | rw [if_neg (by omega), if_neg (by omega)], rfl, rfl⟩ (by repeat constructor) (by repeat constructor)
  ·intro c2
   refine go_skip ?_
   refine go_seq ?_
   refine go_region rfl ?_
   refine go_pure0 Tk rfl rfl rfl ?_
   refine go_nil ?_
   refine go_env [(4, _)] ⟨rfl, trivial⟩ ?_
   refine go_ret ⟨rfl, rfl⟩ _ _ (res1 (by rfl) (.tmp rfl)) ⟨by first | rw [if_pos (by omega)] | rw [if_neg (by omega), if_pos (by omega)] | rw [if_neg (by omega), if_neg (by omega)], rfl, rfl⟩ (by repeat constructor) (by repeat constructor)

set_option maxHeartbeats 2000000 in
set_option maxRecDepth 20000 in
theorem cmpOr (A : Option Addr) (c : Nat) (xs : List Int) :
    Spec Tryz.prog 86 #[.slice A xs.length c] [sl (tInt .i64) A c xs] [] (fun v Ps' Os' => v = .int .i64 ((xs.find? (· ≠ 0)).getD 0) ∧ Ps' = [] ∧ Os' = []) := by
 refine spec_of (fn := Tryz.f86) (args := [.slice A xs.length c]) 18 Tryz.func86 rfl (by kernel_rfl) Tryz.ntmps86 (Nat.le_of_ble_eq_true rfl) (fun w0 hp0 hf0 => ?_)
 refine go_seq ?_
 refine go_len (xs := xs) (by repeat constructor) (fun l0 m0 => ?_)
 refine go_region rfl ?_
 refine go_pure0 Tk rfl rfl rfl ?_
 refine go_nil ?_
 refine go_env [(0, _)] ⟨rfl, trivial⟩ ?_
 refine go_seq ?_
 refine go_region rfl ?_
 refine go_pure0 Tk rfl rfl rfl ?_
 refine go_nil ?_
 refine go_env [(0, _), (3, _)] ⟨rfl, rfl, trivial⟩ ?_
 refine go_seq ?_
 refine go_seq ?_
 refine go_region rfl ?_
 refine go_pure0 Tk rfl rfl rfl ?_
 refine go_pure0 Tk rfl rfl rfl ?_
 refine go_pure0 Tk rfl rfl rfl ?_
 refine go_nil ?_
 refine go_env [(3, _), (6, _), (7, _), (8, _)] ⟨rfl, rfl, rfl, rfl, trivial⟩ ?_
 refine go_block ?_
 refine go_loop' (X := Nat) (fun k => [(8, .int .i64 (k : Int))]) [(3, _), (6, _), (7, _)] (fun _ => []) (fun k => k ≤ xs.length ∧ (xs.take k).find? (· ≠ 0) = none) (fun k => xs.length - k) (0) ⟨rfl, rfl, rfl, rfl, trivial⟩ (by repeat constructor) ⟨by omega, rfl⟩ ?_
 intro k ⟨hk, hz⟩
 refine go_seq ?_
 refine go_region rfl ?_
 refine go_pure0 Tk rfl rfl rfl ?_
 refine go_nil ?_
 refine go_env [(3, _), (6, _), (7, _), (8, _), (9, _)] ⟨rfl, rfl, rfl, rfl, rfl, trivial⟩ ?_
 refine go_seq ?_
 refine go_condD rfl ?_ ?_
 ·intro c1
  refine go_skip ?_
  refine go_seq ?_
  refine go_block ?_
  refine go_seq ?_
  refine go_elem_int (xs := xs) (by repeat constructor) (k) (List.getElem?_eq_getElem (by omega)) (fun b o hA => ?_); cases hA
  refine go_region rfl ?_
  refine go_val0 rfl (idx_val Tk rfl rfl rfl rfl rfl (by omega)) rfl ?_
  refine go_val0 rfl (ldv Tk rfl rfl rfl) rfl ?_
  refine go_pure0 Tk rfl rfl rfl ?_
  refine go_nil ?_
  refine go_env [(3, _), (5, _), (6, _), (7, _), (8, _)] ⟨rfl, rfl, rfl, rfl, rfl, trivial⟩ ?_
  refine go_seq ?_
  refine go_region rfl ?_
  refine go_pure0 Tk rfl rfl rfl ?_
  refine go_pure0 Tk rfl rfl rfl ?_
  refine go_pure0 Tk rfl rfl rfl ?_
  refine go_nil ?_
  refine go_env [(3, _), (5, _), (6, _), (7, _), (8, _), (14, _)] ⟨rfl, rfl, rfl, rfl, rfl, rfl, trivial⟩ ?_
  refine go_condN rfl ?_ ?_
  ·intro c2
   refine go_seq ?_
   refine go_region rfl ?_
   refine go_pure0 Tk rfl rfl rfl ?_
   refine go_pure0 Tk rfl rfl rfl ?_
   refine go_nil ?_
   refine go_env [(2, _)] ⟨rfl, trivial⟩ ?_
   refine go_ret ⟨rfl, rfl⟩ _ _ (res1 (by rfl) (.tmp rfl)) ⟨congrArg (Value.int .i64) (by first | exact (or_hit (by omega) hz c2).symm | exact (or_none (by omega) hz).symm), rfl, rfl⟩ (by repeat constructor) (by repeat constructor)
  ·intro c2
   refine go_skip ?_
   refine go_blk ?_
   refine go_region rfl ?_
   refine go_pure0 Tk rfl rfl rfl ?_
   refine go_pure0 Tk rfl rfl rfl ?_
   refine go_nil ?_
   refine go_i64 8 rfl (by omega) (by omega) ?_
   refine go_back (k + 1) ⟨rfl, rfl, rfl, rfl, trivial⟩ (by repeat constructor) (by repeat constructor) ⟨by omega, or_next (by omega) hz c2⟩ (by omega)
 ·intro c1
  refine go_exit rfl ?_
  refine go_seq ?_
  refine go_region rfl ?_
  refine go_pure0 Tk rfl rfl rfl ?_
  refine go_pure0 Tk rfl rfl rfl ?_
  refine go_nil ?_
  refine go_env [(2, _)] ⟨rfl, trivial⟩ ?_
  refine go_ret ⟨rfl, rfl⟩ _ _ (res1 (by rfl) (.tmp rfl)) ⟨congrArg (Value.int .i64) (by first | exact (or_hit (by omega) hz c2).symm | exact (or_none (by omega) hz).symm), rfl, rfl⟩ (by repeat constructor) (by repeat constructor)

end Go.Proofs.YtkhddfknpegpmaaGreat.SL

/- Contracts of functions of the program (Compare): what each call comes to, for the laws' proofs. -/
set_option linter.unusedVariables false
set_option linter.unusedSimpArgs false
namespace Go.Proofs.YtkhddfknpegpmaaGreat.SL
open Go 

set_option maxHeartbeats 2000000 in
set_option maxRecDepth 20000 in
theorem slicesCompare (A : Option Addr) (a : List Int) (c : Nat) (B : Option Addr) (b : List Int) (d : Nat) :
    Spec Tryz.prog 89 #[.slice A a.length c, .slice B b.length d] [sl tU A c a, sl tU B d b] [] (fun v Ps' Os' => v = .int .i64 (cmpL a b) ∧ Ps' = [] ∧ Os' = []) := by
 refine spec_of (fn := Tryz.f89) (args := [.slice A a.length c, .slice B b.length d]) 36 Tryz.func89 rfl (by kernel_rfl) Tryz.ntmps89 (Nat.le_of_ble_eq_true rfl) (fun w0 hp0 hf0 => ?_)
 refine go_seq ?_
 refine go_len (xs := a) (by repeat constructor) (fun l0 m0 => ?_)
 refine go_len (xs := b) (by repeat constructor) (fun l1 m1 => ?_)
 refine go_region rfl ?_
 refine go_pure0 Tk rfl rfl rfl ?_
 refine go_nil ?_
 refine go_env [(0, _), (1, _)] ⟨rfl, rfl, trivial⟩ ?_
 refine go_seq ?_
 refine go_seq ?_
 refine go_region rfl ?_
 refine go_pure0 Tk rfl rfl rfl ?_
 refine go_pure0 Tk rfl rfl rfl ?_
 refine go_pure0 Tk rfl rfl rfl ?_
 refine go_nil ?_
 refine go_env [(0, _), (1, _), (9, _), (10, _), (11, _)] ⟨rfl, rfl, rfl, rfl, rfl, trivial⟩ ?_
 refine go_block ?_
 refine go_loop' (X := Nat) (fun k => [(11, .int .i64 (k : Int))]) [(0, _), (1, _), (9, _), (10, _)] (fun _ => []) (fun k => k ≤ a.length ∧ k ≤ b.length ∧ a.take k = b.take k) (fun k => a.length - k) (0) ⟨rfl, rfl, rfl, rfl, rfl, trivial⟩ (by repeat constructor) ⟨by omega, by omega, rfl⟩ ?_
 intro k ⟨hk, hk2, hz⟩
 refine go_seq ?_
 refine go_region rfl ?_
 refine go_pure0 Tk rfl rfl rfl ?_
 refine go_nil ?_
 refine go_env [(0, _), (1, _), (9, _), (10, _), (11, _), (12, _)] ⟨rfl, rfl, rfl, rfl, rfl, rfl, trivial⟩ ?_
 refine go_seq ?_
 refine go_condD rfl ?_ ?_
 ·intro c1
  refine go_skip ?_
  refine go_seq ?_
  refine go_block ?_
  refine go_seq ?_
  refine go_elem_int (xs := a) (by repeat constructor) (k) (List.getElem?_eq_getElem (by omega)) (fun b1 o1 hA => ?_); cases hA
  refine go_region rfl ?_
  refine go_pure0 Tk rfl rfl rfl ?_
  refine go_val0 rfl (idx_val Tk rfl rfl rfl rfl rfl (by omega)) rfl ?_
  refine go_val0 rfl (ldv Tk rfl rfl rfl) rfl ?_
  refine go_pure0 Tk rfl rfl rfl ?_
  refine go_pure0 Tk rfl rfl rfl ?_
  refine go_nil ?_
  refine go_env [(0, _), (1, _), (5, _), (6, _), (9, _), (10, _), (11, _)] ⟨rfl, rfl, rfl, rfl, rfl, rfl, rfl, trivial⟩ ?_
  refine go_seq ?_
  refine go_seq ?_
  refine go_region rfl ?_
  refine go_pure0 Tk rfl rfl rfl ?_
  refine go_pure0 Tk rfl rfl rfl ?_
  refine go_pure0 Tk rfl rfl rfl ?_
  refine go_pure0 Tk rfl rfl rfl ?_
  refine go_nil ?_
  refine go_env [(0, _), (1, _), (5, _), (6, _), (9, _), (10, _), (11, _), (19, _)] ⟨rfl, rfl, rfl, rfl, rfl, rfl, rfl, rfl, trivial⟩ ?_
  refine go_condD rfl ?_ ?_
  ·intro c2
   refine go_seq ?_
   refine go_region rfl ?_
   refine go_pure0 Tk rfl rfl rfl ?_
   refine go_nil ?_
   refine go_env [(4, _)] ⟨rfl, trivial⟩ ?_
   refine go_ret ⟨rfl, rfl⟩ _ _ (res1 (by rfl) (.tmp rfl)) ⟨congrArg (Value.int .i64) (cmp_r0 hz (by omega) (by omega) (by omega)), rfl, rfl⟩ (by repeat constructor) (by repeat constructor)
  ·intro c2
   refine go_skip ?_
   refine go_seq ?_
   refine go_elem_int (xs := b) (by repeat constructor) (k) (List.getElem?_eq_getElem (by omega)) (fun b2 o2 hA => ?_); cases hA
   refine go_region rfl ?_
   refine go_pure0 Tk rfl rfl rfl ?_
   refine go_pure0 Tk rfl rfl rfl ?_
   refine go_val0 rfl (idx_val Tk rfl rfl rfl rfl rfl (by omega)) rfl ?_
   refine go_val0 rfl (ldv Tk rfl rfl rfl) rfl ?_
   refine go_pure0 Tk rfl rfl rfl ?_
   refine go_nil ?_
   refine go_env [(0, _), (1, _), (6, _), (7, _), (9, _), (10, _), (11, _)] ⟨rfl, rfl, rfl, rfl, rfl, rfl, rfl, trivial⟩ ?_
   refine go_seq ?_
   refine go_region rfl ?_
   refine go_pure0 Tk rfl rfl rfl ?_
   refine go_pure0 Tk rfl rfl rfl ?_
   refine go_call (compare_u32 _ _) rfl rfl (by rfl) rfl (by repeat constructor) (by repeat constructor) (fun h => nomatch h) ?_
   rintro _ _ _ ⟨rfl, rfl, rfl⟩
   refine go_pure0 Tk rfl rfl rfl ?_
   refine go_nil ?_
   refine go_env [(0, _), (1, _), (8, _), (9, _), (10, _), (11, _)] ⟨rfl, rfl, rfl, rfl, rfl, rfl, trivial⟩ ?_
   refine go_seq ?_
   refine go_region rfl ?_
   refine go_pure0 Tk rfl rfl rfl ?_
   refine go_pure0 Tk rfl rfl rfl ?_
   refine go_nil ?_
   refine go_env [(0, _), (1, _), (8, _), (9, _), (10, _), (11, _), (28, _)] ⟨rfl, rfl, rfl, rfl, rfl, rfl, rfl, trivial⟩ ?_
   refine go_condN rfl ?_ ?_
   ·intro c3
    refine go_seq ?_
    refine go_region rfl ?_
    refine go_pure0 Tk rfl rfl rfl ?_
    refine go_pure0 Tk rfl rfl rfl ?_
    refine go_nil ?_
    refine go_env [(4, _)] ⟨rfl, trivial⟩ ?_
    refine go_ret ⟨rfl, rfl⟩ _ _ (res1 (by rfl) (.tmp rfl)) ⟨congrArg (Value.int .i64) (cmp_r1 hz (by omega) (by omega) c3), rfl, rfl⟩ (by repeat constructor) (by repeat constructor)
   ·intro c3
    refine go_skip ?_
    refine go_blk ?_
    refine go_region rfl ?_
    refine go_pure0 Tk rfl rfl rfl ?_
    refine go_pure0 Tk rfl rfl rfl ?_
    refine go_nil ?_
    refine go_i64 11 rfl (by omega) (by omega) ?_
    refine go_back (k + 1) ⟨rfl, rfl, rfl, rfl, rfl, trivial⟩ (by repeat constructor) (by repeat constructor) (⟨by omega, by omega, take_next (by omega) (by omega) hz (cmp_eq c3)⟩) (by omega)
 ·intro c1
  refine go_exit rfl ?_
  refine go_seq ?_
  refine go_seq ?_
  refine go_region rfl ?_
  refine go_pure0 Tk rfl rfl rfl ?_
  refine go_pure0 Tk rfl rfl rfl ?_
  refine go_pure0 Tk rfl rfl rfl ?_
  refine go_pure0 Tk rfl rfl rfl ?_
  refine go_pure0 Tk rfl rfl rfl ?_
  refine go_nil ?_
  refine go_env [(35, _)] ⟨rfl, trivial⟩ ?_
  refine go_condD rfl ?_ ?_
  ·intro c4
   refine go_seq ?_
   refine go_region rfl ?_
   refine go_pure0 Tk rfl rfl rfl ?_
   refine go_nil ?_
   refine go_env [(4, _)] ⟨rfl, trivial⟩ ?_
   refine go_ret ⟨rfl, rfl⟩ _ _ (res1 (by rfl) (.tmp rfl)) ⟨congrArg (Value.int .i64) (by rw [cmp_r2 hz (by omega) (by omega) (by omega), if_pos (by omega)]), rfl, rfl⟩ (by repeat constructor) (by repeat constructor)
  ·intro c4
   refine go_skip ?_
   refine go_seq ?_
   refine go_region rfl ?_
   refine go_pure0 Tk rfl rfl rfl ?_
   refine go_nil ?_
   refine go_env [(4, _)] ⟨rfl, trivial⟩ ?_
   refine go_ret ⟨rfl, rfl⟩ _ _ (res1 (by rfl) (.tmp rfl)) ⟨congrArg (Value.int .i64) (by rw [cmp_r2 hz (by omega) (by omega) (by omega), if_neg (by omega)]), rfl, rfl⟩ (by repeat constructor) (by repeat constructor)

set_option maxHeartbeats 2000000 in
set_option maxRecDepth 20000 in
theorem atomsCompare (p : Int) (A : Option Addr) (a : List Int) (c : Nat) (q : Int) (B : Option Addr) (b : List Int) (d : Nat) :
    Spec Tryz.prog 68 #[.agg #[.int .u32 p, .slice A a.length c], .agg #[.int .u32 q, .slice B b.length d]] [sl tU A c a, sl tU B d b] [] (fun v Ps' Os' => v = .int .i64 (cmpF p a q b) ∧ Ps' = [] ∧ Os' = []) := by
 refine spec_of (fn := Tryz.f68) (args := [.agg #[.int .u32 p, .slice A a.length c], .agg #[.int .u32 q, .slice B b.length d]]) 24 Tryz.func68 rfl (by kernel_rfl) Tryz.ntmps68 (Nat.le_of_ble_eq_true rfl) (fun w0 hp0 hf0 => ?_)
 refine go_seq ?_
 refine go_region rfl ?_
 refine go_box Tk rfl rfl rfl rfl (by rfl) rfl rfl (fun h => nomatch h) ?_
 intro b1
 refine go_box Tk rfl rfl rfl rfl (by rfl) rfl rfl (fun h => nomatch h) ?_
 intro b2
 refine go_pure0 Tk rfl rfl rfl ?_
 refine go_nil ?_
 refine go_env [(2, _), (3, _)] ⟨rfl, rfl, trivial⟩ ?_
 refine go_seq ?_
 refine go_draw'  [1, 3, 6, 9, 13, 15] (SL.pre [(1, 0), (1, 2), (1, 5), (1, 8), (1, 12), (1, 14), (2, 1), (2, 3), (2, 6), (1, 7), (2, 9), (1, 10), (2, 13), (2, 15), (0, 4), (0, 11), (0, 16), (0, 17), (0, 18), (1, 19)] .nil) mixed rfl (by kernel_rfl) ?_
 refine go_pure1 Tk rfl rfl rfl ?_
 refine go_pure1 Tk rfl rfl rfl ?_
 refine go_pure1 Tk rfl rfl rfl ?_
 refine go_pure1 Tk rfl rfl rfl ?_
 refine go_pure1 Tk rfl rfl rfl ?_
 refine go_pure1 Tk rfl rfl rfl ?_
 refine go_val2a rfl (ldv Tk rfl rfl rfl) rfl ?_
 refine go_val2a rfl (ldv Tk rfl rfl rfl) rfl ?_
 refine go_val2a rfl (ldv Tk rfl rfl rfl) rfl ?_
 refine go_pure1 Tk rfl rfl rfl ?_
 refine go_val2a rfl (ldv Tk rfl rfl rfl) rfl ?_
 refine go_pure1 Tk rfl rfl rfl ?_
 refine go_val2a rfl (ldv Tk rfl rfl rfl) rfl ?_
 refine go_val2a rfl (ldv Tk rfl rfl rfl) rfl ?_
 refine go_call (compare_u32 _ _) rfl rfl (by rfl) rfl (by repeat constructor) (by repeat constructor) (fun _ v Ps' Os' hq => by obtain ⟨rfl, rfl, rfl⟩ := hq; exact satS (by repeat constructor) (by repeat constructor)) ?_
 rintro _ _ _ ⟨rfl, rfl, rfl⟩
 refine go_call (compare_i64 _ _) rfl rfl (by rfl) rfl (by repeat constructor) (by repeat constructor) (fun _ v Ps' Os' hq => by obtain ⟨rfl, rfl, rfl⟩ := hq; exact satS (by repeat constructor) (by repeat constructor)) ?_
 rintro _ _ _ ⟨rfl, rfl, rfl⟩
 refine go_call (slicesCompare _ _ _ _ _ _) rfl rfl (by rfl) rfl (by repeat constructor) (by repeat constructor) (fun h => nomatch h) ?_
 rintro _ _ _ ⟨rfl, rfl, rfl⟩
 refine go_bslice Tk rfl rfl rfl rfl rfl rfl rfl rfl (fun h => nomatch h) ?_
 intro b3
 refine go_lit_int (kk := .i64) [_, _, _] (by repeat constructor) (by simp) ?_
 refine go_call (cmpOr _ _ [_, _, _]) rfl rfl (by rfl) rfl (by repeat constructor) (by repeat constructor) (fun h => nomatch h) ?_
 rintro _ _ _ ⟨rfl, rfl, rfl⟩
 refine go_pure1 Tk rfl rfl rfl ?_
 refine go_nil ?_
 refine go_env [(4, _)] ⟨rfl, trivial⟩ ?_
 refine go_ret ⟨rfl, rfl⟩ _ _ (res1 (by rfl) (.tmp rfl)) ⟨congrArg (Value.int .i64) (cmp_all p q a b), rfl, rfl⟩ (by repeat constructor) (by repeat constructor)

set_option maxHeartbeats 2000000 in
set_option maxRecDepth 20000 in
theorem refCompare (p : Int) (A : Option Addr) (a : List Int) (c : Nat) (q : Int) (B : Option Addr) (b : List Int) (d : Nat) :
    Spec Tryz.prog 33 #[.agg #[.int .u32 p, .slice A a.length c], .agg #[.int .u32 q, .slice B b.length d]] [sl tU A c a, sl tU B d b] [] (fun v Ps' Os' => v = .int .i64 (cmpF p a q b) ∧ Ps' = [] ∧ Os' = []) := by
 refine spec_of (fn := Tryz.f33) (args := [.agg #[.int .u32 p, .slice A a.length c], .agg #[.int .u32 q, .slice B b.length d]]) 70 Tryz.func33 rfl (by kernel_rfl) Tryz.ntmps33 (Nat.le_of_ble_eq_true rfl) (fun w0 hp0 hf0 => ?_)
 refine go_seq ?_
 refine go_region rfl ?_
 refine go_box Tk rfl rfl rfl rfl (by rfl) rfl rfl (fun h => nomatch h) ?_
 intro b1
 refine go_box Tk rfl rfl rfl rfl (by rfl) rfl rfl (fun h => nomatch h) ?_
 intro b2
 refine go_pure0 Tk rfl rfl rfl ?_
 refine go_nil ?_
 refine go_env [(2, _), (3, _)] ⟨rfl, rfl, trivial⟩ ?_
 refine go_seq ?_
 refine go_seq ?_
 refine go_cut' (X := Bool) (fun x => [(26, .bool x)]) [(2, _), (3, _)] (fun x => x = decide (p < q ∨ (p = q ∧ a.length < b.length))) ⟨rfl, rfl, trivial⟩ ?_ ?_
 ·skip
  refine go_region rfl ?_
  refine go_pure0 Tk rfl rfl rfl ?_
  refine go_val0 rfl (ldv Tk rfl rfl rfl) rfl ?_
  refine go_pure0 Tk rfl rfl rfl ?_
  refine go_val0 rfl (ldv Tk rfl rfl rfl) rfl ?_
  refine go_pure0 Tk rfl rfl rfl ?_
  refine go_pure0 Tk rfl rfl rfl ?_
  refine go_known 11 rfl ?_ ?_
  ·intro g1
   (try simp only [decide_eq_true_eq, decide_eq_false_iff_not, Bool.not_eq_true', Bool.not_eq_false', Bool.not_eq_eq_eq_not, Bool.not_true, Bool.not_false, Int.not_lt, Int.not_le, beq_iff_eq, beq_eq_false_iff_ne, ne_eq] at g1)
   refine go_skip0 rfl rfl ?_
   refine go_skip0 rfl rfl ?_
   refine go_skip0 rfl rfl ?_
   refine go_skip0 rfl rfl ?_
   refine go_skip0 rfl rfl ?_
   refine go_skip0 rfl rfl ?_
   refine go_skip0 rfl rfl ?_
   refine go_skip0 rfl rfl ?_
   refine go_skip0 rfl rfl ?_
   refine go_skip0 rfl rfl ?_
   refine go_skip0 rfl rfl ?_
   refine go_skip0 rfl rfl ?_
   refine go_skip0 rfl rfl ?_
   refine go_skip0 rfl rfl ?_
   refine go_pure0 Tk rfl rfl rfl ?_
   refine go_nil ?_
   refine go_back _ ⟨rfl, rfl, rfl, trivial⟩ (by repeat constructor) (by repeat constructor) (by first | (rw [eq_comm, decide_eq_true_eq]; omega) | (rw [eq_comm, decide_eq_false_iff_not]; omega) | (rw [decide_eq_decide]; omega)) (by decide)
  ·intro g1
   (try simp only [decide_eq_true_eq, decide_eq_false_iff_not, Bool.not_eq_true', Bool.not_eq_false', Bool.not_eq_eq_eq_not, Bool.not_true, Bool.not_false, Int.not_lt, Int.not_le, beq_iff_eq, beq_eq_false_iff_ne, ne_eq] at g1)
   refine go_pure0 Tk rfl rfl rfl ?_
   refine go_val0 rfl (ldv Tk rfl rfl rfl) rfl ?_
   refine go_pure0 Tk rfl rfl rfl ?_
   refine go_val0 rfl (ldv Tk rfl rfl rfl) rfl ?_
   refine go_pure0 Tk rfl rfl rfl ?_
   refine go_pure0 Tk rfl rfl rfl ?_
   refine go_known 17 rfl ?_ ?_
   ·intro g2
    (try simp only [decide_eq_true_eq, decide_eq_false_iff_not, Bool.not_eq_true', Bool.not_eq_false', Bool.not_eq_eq_eq_not, Bool.not_true, Bool.not_false, Int.not_lt, Int.not_le, beq_iff_eq, beq_eq_false_iff_ne, ne_eq] at g2)
    refine go_pure0 Tk rfl rfl rfl ?_
    refine go_val0 rfl (ldv Tk rfl rfl rfl) rfl ?_
    refine go_pure0 Tk rfl rfl rfl ?_
    refine go_pure0 Tk rfl rfl rfl ?_
    refine go_val0 rfl (ldv Tk rfl rfl rfl) rfl ?_
    refine go_pure0 Tk rfl rfl rfl ?_
    refine go_pure0 Tk rfl rfl rfl ?_
    refine go_pure0 Tk rfl rfl rfl ?_
    refine go_pure0 Tk rfl rfl rfl ?_
    refine go_nil ?_
    refine go_back _ ⟨rfl, rfl, rfl, trivial⟩ (by repeat constructor) (by repeat constructor) (by first | (rw [eq_comm, decide_eq_true_eq]; omega) | (rw [eq_comm, decide_eq_false_iff_not]; omega) | (rw [decide_eq_decide]; omega)) (by decide)
   ·intro g2
    (try simp only [decide_eq_true_eq, decide_eq_false_iff_not, Bool.not_eq_true', Bool.not_eq_false', Bool.not_eq_eq_eq_not, Bool.not_true, Bool.not_false, Int.not_lt, Int.not_le, beq_iff_eq, beq_eq_false_iff_ne, ne_eq] at g2)
    refine go_skip0 rfl rfl ?_
    refine go_skip0 rfl rfl ?_
    refine go_skip0 rfl rfl ?_
    refine go_skip0 rfl rfl ?_
    refine go_skip0 rfl rfl ?_
    refine go_skip0 rfl rfl ?_
    refine go_skip0 rfl rfl ?_
    refine go_pure0 Tk rfl rfl rfl ?_
    refine go_pure0 Tk rfl rfl rfl ?_
    refine go_nil ?_
    refine go_back _ ⟨rfl, rfl, rfl, trivial⟩ (by repeat constructor) (by repeat constructor) (by first | (rw [eq_comm, decide_eq_true_eq]; omega) | (rw [eq_comm, decide_eq_false_iff_not]; omega) | (rw [decide_eq_decide]; omega)) (by decide)
 intro x hx
 subst hx
 refine go_cond rfl ?_ ?_
 ·intro c1
  (try simp only [decide_eq_true_eq, decide_eq_false_iff_not, Bool.not_eq_true', Bool.not_eq_false', Bool.not_eq_eq_eq_not, Bool.not_true, Bool.not_false, Int.not_lt, Int.not_le, beq_iff_eq, beq_eq_false_iff_ne, ne_eq] at c1)
  refine go_seq ?_
  refine go_region rfl ?_
  refine go_pure0 Tk rfl rfl rfl ?_
  refine go_nil ?_
  refine go_env [(4, _)] ⟨rfl, trivial⟩ ?_
  refine go_ret ⟨rfl, rfl⟩ _ _ (res1 (by rfl) (.tmp rfl)) ⟨congrArg (Value.int .i64) ((cmpF_lt c1).symm), rfl, rfl⟩ (by repeat constructor) (by repeat constructor)
 ·intro c1
  (try simp only [decide_eq_true_eq, decide_eq_false_iff_not, Bool.not_eq_true', Bool.not_eq_false', Bool.not_eq_eq_eq_not, Bool.not_true, Bool.not_false, Int.not_lt, Int.not_le, beq_iff_eq, beq_eq_false_iff_ne, ne_eq] at c1)
  refine go_skip ?_
  refine go_seq ?_
  refine go_seq ?_
  refine go_cut' (X := Bool) (fun x => [(40, .bool x)]) [(2, _), (3, _)] (fun x => x = decide (q < p ∨ b.length < a.length)) ⟨rfl, rfl, trivial⟩ ?_ ?_
  ·skip
   refine go_region rfl ?_
   refine go_pure0 Tk rfl rfl rfl ?_
   refine go_val0 rfl (ldv Tk rfl rfl rfl) rfl ?_
   refine go_pure0 Tk rfl rfl rfl ?_
   refine go_val0 rfl (ldv Tk rfl rfl rfl) rfl ?_
   refine go_pure0 Tk rfl rfl rfl ?_
   refine go_pure0 Tk rfl rfl rfl ?_
   refine go_known 32 rfl ?_ ?_
   ·intro g3
    (try simp only [decide_eq_true_eq, decide_eq_false_iff_not, Bool.not_eq_true', Bool.not_eq_false', Bool.not_eq_eq_eq_not, Bool.not_true, Bool.not_false, Int.not_lt, Int.not_le, beq_iff_eq, beq_eq_false_iff_ne, ne_eq] at g3)
    refine go_skip0 rfl rfl ?_
    refine go_skip0 rfl rfl ?_
    refine go_skip0 rfl rfl ?_
    refine go_skip0 rfl rfl ?_
    refine go_skip0 rfl rfl ?_
    refine go_skip0 rfl rfl ?_
    refine go_skip0 rfl rfl ?_
    refine go_pure0 Tk rfl rfl rfl ?_
    refine go_nil ?_
    refine go_back _ ⟨rfl, rfl, rfl, trivial⟩ (by repeat constructor) (by repeat constructor) (by first | (rw [eq_comm, decide_eq_true_eq]; omega) | (rw [eq_comm, decide_eq_false_iff_not]; omega) | (rw [decide_eq_decide]; omega)) (by decide)
   ·intro g3
    (try simp only [decide_eq_true_eq, decide_eq_false_iff_not, Bool.not_eq_true', Bool.not_eq_false', Bool.not_eq_eq_eq_not, Bool.not_true, Bool.not_false, Int.not_lt, Int.not_le, beq_iff_eq, beq_eq_false_iff_ne, ne_eq] at g3)
    refine go_pure0 Tk rfl rfl rfl ?_
    refine go_val0 rfl (ldv Tk rfl rfl rfl) rfl ?_
    refine go_pure0 Tk rfl rfl rfl ?_
    refine go_pure0 Tk rfl rfl rfl ?_
    refine go_val0 rfl (ldv Tk rfl rfl rfl) rfl ?_
    refine go_pure0 Tk rfl rfl rfl ?_
    refine go_pure0 Tk rfl rfl rfl ?_
    refine go_pure0 Tk rfl rfl rfl ?_
    refine go_nil ?_
    refine go_back _ ⟨rfl, rfl, rfl, trivial⟩ (by repeat constructor) (by repeat constructor) (by first | (rw [eq_comm, decide_eq_true_eq]; omega) | (rw [eq_comm, decide_eq_false_iff_not]; omega) | (rw [decide_eq_decide]; omega)) (by decide)
  intro x hx
  subst hx
  refine go_cond rfl ?_ ?_
  ·intro c2
   (try simp only [decide_eq_true_eq, decide_eq_false_iff_not, Bool.not_eq_true', Bool.not_eq_false', Bool.not_eq_eq_eq_not, Bool.not_true, Bool.not_false, Int.not_lt, Int.not_le, beq_iff_eq, beq_eq_false_iff_ne, ne_eq] at c2)
   refine go_seq ?_
   refine go_region rfl ?_
   refine go_pure0 Tk rfl rfl rfl ?_
   refine go_nil ?_
   refine go_env [(4, _)] ⟨rfl, trivial⟩ ?_
   refine go_ret ⟨rfl, rfl⟩ _ _ (res1 (by rfl) (.tmp rfl)) ⟨congrArg (Value.int .i64) ((cmpF_gt c1 c2).symm), rfl, rfl⟩ (by repeat constructor) (by repeat constructor)
  ·intro c2
   (try simp only [decide_eq_true_eq, decide_eq_false_iff_not, Bool.not_eq_true', Bool.not_eq_false', Bool.not_eq_eq_eq_not, Bool.not_true, Bool.not_false, Int.not_lt, Int.not_le, beq_iff_eq, beq_eq_false_iff_ne, ne_eq] at c2)
   refine go_skip ?_
   refine go_seq ?_
   refine go_seq ?_
   obtain ⟨e1, e2, e3⟩ := cmpF_eq c1 c2
   refine go_len (xs := a) (by repeat constructor) (fun l0 m0 => ?_)
   refine go_region rfl ?_
   refine go_pure0 Tk rfl rfl rfl ?_
   refine go_nil ?_
   refine go_env [(2, _), (3, _), (5, _)] ⟨rfl, rfl, rfl, trivial⟩ ?_
   refine go_block ?_
   refine go_loop' (X := Nat) (fun k => [(5, .int .i64 (k : Int))]) [(2, _), (3, _)] (fun _ => []) (fun k => k ≤ a.length ∧ a.take k = b.take k) (fun k => a.length - k) (0) ⟨rfl, rfl, rfl, trivial⟩ (by repeat constructor) ⟨by omega, rfl⟩ ?_
   intro k ⟨hk, hz⟩
   refine go_seq ?_
   refine go_seq ?_
   refine go_region rfl ?_
   refine go_pure0 Tk rfl rfl rfl ?_
   refine go_pure0 Tk rfl rfl rfl ?_
   refine go_val0 rfl (ldv Tk rfl rfl rfl) rfl ?_
   refine go_pure0 Tk rfl rfl rfl ?_
   refine go_pure0 Tk rfl rfl rfl ?_
   refine go_nil ?_
   refine go_env [(2, _), (3, _), (5, _), (45, _)] ⟨rfl, rfl, rfl, rfl, trivial⟩ ?_
   refine go_condD rfl ?_ ?_
   ·intro c3
    refine go_skip ?_
    refine go_seq ?_
    refine go_block ?_
    refine go_seq ?_
    refine go_seq ?_
    refine go_elem_int (xs := a) (by repeat constructor) (k) (List.getElem?_eq_getElem (by omega)) (fun b3 o3 hA => ?_); cases hA
    refine go_elem_int (xs := b) (by repeat constructor) (k) (List.getElem?_eq_getElem (by omega)) (fun b4 o4 hA => ?_); cases hA
    refine go_draw'  [1, 4, 6, 9] (SL.pre [(1, 0), (1, 2), (1, 5), (1, 7), (2, 1), (1, 3), (2, 4), (2, 6), (1, 8), (2, 9), (1, 10)] .nil) mixed rfl (by kernel_rfl) ?_
    refine go_pure1 Tk rfl rfl rfl ?_
    refine go_pure1 Tk rfl rfl rfl ?_
    refine go_pure1 Tk rfl rfl rfl ?_
    refine go_pure1 Tk rfl rfl rfl ?_
    refine go_val2a rfl (ldv Tk rfl rfl rfl) rfl ?_
    refine go_val1 rfl (idx_val Tk rfl rfl rfl rfl rfl (by omega)) rfl ?_
    refine go_val2a rfl (ldv Tk rfl rfl rfl) rfl ?_
    refine go_val2a rfl (ldv Tk rfl rfl rfl) rfl ?_
    refine go_val1 rfl (idx_val Tk rfl rfl rfl rfl rfl (by omega)) rfl ?_
    refine go_val2a rfl (ldv Tk rfl rfl rfl) rfl ?_
    refine go_pure1 Tk rfl rfl rfl ?_
    refine go_nil ?_
    refine go_env [(2, _), (3, _), (5, _), (58, _)] ⟨rfl, rfl, rfl, rfl, trivial⟩ ?_
    refine go_condD rfl ?_ ?_
    ·intro c4
     refine go_seq ?_
     refine go_region rfl ?_
     refine go_pure0 Tk rfl rfl rfl ?_
     refine go_nil ?_
     refine go_env [(4, _)] ⟨rfl, trivial⟩ ?_
     refine go_ret ⟨rfl, rfl⟩ _ _ (res1 (by rfl) (.tmp rfl)) ⟨congrArg (Value.int .i64) (by rw [e1]; exact ((cmpL_at k (by omega) (by omega) hz).1 c4).symm), rfl, rfl⟩ (by repeat constructor) (by repeat constructor)
    ·intro c4
     refine go_skip ?_
     refine go_seq ?_
     refine go_draw'  [1, 4, 6, 9] (SL.pre [(1, 0), (1, 2), (1, 5), (1, 7), (2, 1), (1, 3), (2, 4), (2, 6), (1, 8), (2, 9), (1, 10)] .nil) mixed rfl (by kernel_rfl) ?_
     refine go_pure1 Tk rfl rfl rfl ?_
     refine go_pure1 Tk rfl rfl rfl ?_
     refine go_pure1 Tk rfl rfl rfl ?_
     refine go_pure1 Tk rfl rfl rfl ?_
     refine go_val2a rfl (ldv Tk rfl rfl rfl) rfl ?_
     refine go_val1 rfl (idx_val Tk rfl rfl rfl rfl rfl (by omega)) rfl ?_
     refine go_val2a rfl (ldv Tk rfl rfl rfl) rfl ?_
     refine go_val2a rfl (ldv Tk rfl rfl rfl) rfl ?_
     refine go_val1 rfl (idx_val Tk rfl rfl rfl rfl rfl (by omega)) rfl ?_
     refine go_val2a rfl (ldv Tk rfl rfl rfl) rfl ?_
     refine go_pure1 Tk rfl rfl rfl ?_
     refine go_nil ?_
     refine go_env [(2, _), (3, _), (5, _), (69, _)] ⟨rfl, rfl, rfl, rfl, trivial⟩ ?_
     refine go_condD rfl ?_ ?_
     ·intro c5
      refine go_seq ?_
      refine go_region rfl ?_
      refine go_pure0 Tk rfl rfl rfl ?_
      refine go_nil ?_
      refine go_env [(4, _)] ⟨rfl, trivial⟩ ?_
      refine go_ret ⟨rfl, rfl⟩ _ _ (res1 (by rfl) (.tmp rfl)) ⟨congrArg (Value.int .i64) (by rw [e1]; exact ((cmpL_at k (by omega) (by omega) hz).2 c5).symm), rfl, rfl⟩ (by repeat constructor) (by repeat constructor)
     ·intro c5
      refine go_skip ?_
      refine go_blk ?_
      refine go_region rfl ?_
      refine go_pure0 Tk rfl rfl rfl ?_
      refine go_pure0 Tk rfl rfl rfl ?_
      refine go_pure0 Tk rfl rfl rfl ?_
      refine go_nil ?_
      refine go_i64 5 rfl (by omega) (by omega) ?_
      refine go_back (k + 1) ⟨rfl, rfl, rfl, trivial⟩ (by repeat constructor) (by repeat constructor) (⟨by omega, take_next (by omega) (by omega) hz (by omega)⟩) (by omega)
   ·intro c3
    refine go_exit rfl ?_
    refine go_seq ?_
    refine go_region rfl ?_
    refine go_pure0 Tk rfl rfl rfl ?_
    refine go_nil ?_
    refine go_env [(4, _)] ⟨rfl, trivial⟩ ?_
    refine go_ret ⟨rfl, rfl⟩ _ _ (res1 (by rfl) (.tmp rfl)) ⟨congrArg (Value.int .i64) (by rw [e1, cmpL_all e3 (by omega) hz]), rfl, rfl⟩ (by repeat constructor) (by repeat constructor)


end Go.Proofs.YtkhddfknpegpmaaGreat.SL

/- Contracts of functions of the program (Rel): what each call comes to, for the laws' proofs. -/
set_option linter.unusedVariables false
set_option linter.unusedSimpArgs false
namespace Go.Proofs.YtkhddfknpegpmaaGreat.SL
open Go 

set_option maxHeartbeats 2000000 in
set_option maxRecDepth 20000 in
theorem cloneU (A : Option Addr) (c : Nat) (a : List Int) (hn : a.length ≤ 100000) :
    Spec Tryz.prog 71 #[.slice A a.length c] [sl tU A c a] [] (fun v Ps' Os' => ∃ A' c', v = .slice A' a.length c' ∧ Ps' = [] ∧ Os' = [ol tU 22 A' c' a]) := by
 refine spec_of (fn := Tryz.f71) (args := [.slice A a.length c]) 8 Tryz.func71 rfl (by kernel_rfl) Tryz.ntmps71 (Nat.le_of_ble_eq_true rfl) (fun w0 hp0 hf0 => ?_)
 refine go_seq ?_
 refine go_region rfl ?_
 refine go_pure0 Tk rfl rfl rfl ?_
 refine go_nil ?_
 refine go_env [(0, _)] ⟨rfl, trivial⟩ ?_
 refine go_seq ?_
 refine go_seq ?_
 refine go_region rfl ?_
 refine go_pure0 Tk rfl rfl rfl ?_
 refine go_pure0 Tk rfl rfl rfl ?_
 refine go_nil ?_
 refine go_env [(0, _), (4, _)] ⟨rfl, rfl, trivial⟩ ?_
 refine go_cond rfl ?_ ?_
 ·intro c1
  (try simp only [decide_eq_true_eq, decide_eq_false_iff_not, Bool.not_eq_true', Bool.not_eq_false', Bool.not_eq_eq_eq_not, Bool.not_true, Bool.not_false, Int.not_lt, Int.not_le, beq_iff_eq, beq_eq_false_iff_ne, ne_eq] at c1)
  obtain rfl : A = none := by simpa using c1
  refine go_nil_sl (xs := a) (by repeat constructor) (fun ha => ?_)
  subst ha
  refine go_own_nil tU 22 none ?_
  refine go_seq ?_
  refine go_region rfl ?_
  refine go_pure0 Tk rfl rfl rfl ?_
  refine go_nil ?_
  refine go_env [(2, _)] ⟨rfl, trivial⟩ ?_
  refine go_ret ⟨rfl, rfl⟩ _ _ (res1 (by rfl) (.tmp rfl)) ⟨none, 0, rfl, rfl, rfl⟩ (by repeat constructor) (by repeat constructor)
 ·intro c1
  (try simp only [decide_eq_true_eq, decide_eq_false_iff_not, Bool.not_eq_true', Bool.not_eq_false', Bool.not_eq_eq_eq_not, Bool.not_true, Bool.not_false, Int.not_lt, Int.not_le, beq_iff_eq, beq_eq_false_iff_ne, ne_eq] at c1)
  refine go_skip ?_
  refine go_seq ?_
  refine go_region rfl ?_
  refine go_bslice Tk rfl rfl rfl rfl rfl rfl rfl rfl (fun h => nomatch h) ?_
  intro bo
  refine go_lit_ol (b := bo) tU [] (by repeat constructor) (fun _ _ => rfl) (by simp) ?_
  refine go_pure0 Tk rfl rfl rfl ?_
  refine go_appendN (T := tU) (xs := []) (ys := a) Tk rfl rfl rfl rfl rfl rfl rfl rfl rfl (by repeat constructor) rfl (by repeat constructor) (by simp; omega) (fun h => nomatch h) ?_
  intro A2 c2
  rw [List.nil_append]
  refine go_pure0 Tk rfl rfl rfl ?_
  refine go_nil ?_
  refine go_env [(2, _)] ⟨rfl, trivial⟩ ?_
  refine go_ret ⟨rfl, rfl⟩ _ _ (res1 (by rfl) (.tmp rfl)) ⟨A2, c2, rfl, rfl, rfl⟩ (by repeat constructor) (by repeat constructor)

set_option maxHeartbeats 2000000 in
set_option maxRecDepth 20000 in
theorem relCopied (q : Fa) (QA : Option Addr) (qc : Nat) (hn : q.a.length ≤ 100000) :
    Spec Tryz.prog 55 #[.agg #[.int .u32 q.p, .slice QA q.a.length qc]] [sl tU QA qc q.a] [] (fun v Ps' Os' => ∃ A' c', v = .agg #[.int .u32 q.p, .slice A' q.a.length c'] ∧ Ps' = [] ∧ Os' = [ol tU 22 A' c' q.a]) := by
 refine spec_of (fn := Tryz.f55) (args := [.agg #[.int .u32 q.p, .slice QA q.a.length qc]]) 8 Tryz.func55 rfl (by kernel_rfl) Tryz.ntmps55 (Nat.le_of_ble_eq_true rfl) (fun w0 hp0 hf0 => ?_)
 refine go_seq ?_
 refine go_region rfl ?_
 refine go_box Tk rfl rfl rfl rfl (by rfl) rfl rfl (fun h => nomatch h) ?_
 intro b1
 refine go_alloc Tk rfl rfl rfl (by rfl) rfl rfl (fun h => nomatch h) ?_
 intro b2
 refine go_nil ?_
 refine go_env [(1, _), (2, _)] ⟨rfl, rfl, trivial⟩ ?_
 refine go_seq ?_
 refine go_region rfl ?_
 refine go_pure0 Tk rfl rfl rfl ?_
 refine go_val0 rfl (ldv Tk rfl rfl rfl) rfl ?_
 refine go_call (cloneU QA qc q.a hn) rfl rfl (by rfl) rfl (by repeat constructor) (by repeat constructor) (fun h => nomatch h) ?_
 rintro _ _ _ ⟨A', c', rfl, rfl, rfl⟩
 refine go_pure0 Tk rfl rfl rfl ?_
 refine go_store Tk rfl rfl rfl rfl rfl rfl (by repeat constructor) rfl rfl (by rfl) (fun h => nomatch h) ?_
 refine go_nil ?_
 refine go_env [(1, _), (2, _)] ⟨rfl, rfl, trivial⟩ ?_
 refine go_seq ?_
 refine go_region rfl ?_
 refine go_val0 rfl (ldv Tk rfl rfl rfl) rfl ?_
 refine go_store Tk rfl rfl rfl rfl rfl rfl (by repeat constructor) rfl rfl (by rfl) (fun h => nomatch h) ?_
 refine go_nil ?_
 refine go_env [(2, _)] ⟨rfl, trivial⟩ ?_
 refine go_ret ⟨rfl, rfl⟩ _ _ (res1 (by rfl) (.cell rfl (rdv Tk rfl))) ⟨A', c', rfl, rfl, rfl⟩ (by repeat constructor) (by repeat constructor)


set_option maxHeartbeats 2000000 in
set_option maxRecDepth 20000 in
theorem binSearch (A : Option Addr) (c : Nat) (l : List Fa) (q : Fa) (QA : Option Addr) (qc : Nat) (hr : rises l) (hn : l.length ≤ 50000000) :
    Spec Tryz.prog 67 #[.slice A l.length c, .agg #[.int .u32 q.p, .slice QA q.a.length qc], .func (.func 68) #[] #[]] [sl tU QA qc q.a] [ol tFa 52 A c l] (fun v Ps' Os' => v = .tuple #[.int .i64 (at_ l q : Int), .bool (decide (q ∈ l))] ∧ Ps' = [] ∧ Os' = [ol tFa 52 A c l]) := by
 refine spec_of (fn := Tryz.f67) (args := [.slice A l.length c, .agg #[.int .u32 q.p, .slice QA q.a.length qc], .func (.func 68) #[] #[]]) 49 Tryz.func67 rfl (by kernel_rfl) Tryz.ntmps67 (Nat.le_of_ble_eq_true rfl) (fun w0 hp0 hf0 => ?_)
 refine go_seq ?_
 refine go_region rfl ?_
 refine go_box Tk rfl rfl rfl rfl (by rfl) rfl rfl (fun h => nomatch h) ?_
 intro b1
 refine go_pure0 Tk rfl rfl rfl ?_
 refine go_pure0 Tk rfl rfl rfl ?_
 refine go_nil ?_
 refine go_env [(0, _), (2, _), (4, _)] ⟨rfl, rfl, rfl, trivial⟩ ?_
 refine go_seq ?_
 refine go_region rfl ?_
 refine go_pure0 Tk rfl rfl rfl ?_
 refine go_pure0 Tk rfl rfl rfl ?_
 refine go_pure0 Tk rfl rfl rfl ?_
 refine go_nil ?_
 refine go_env [(0, _), (2, _), (4, _), (8, _)] ⟨rfl, rfl, rfl, rfl, trivial⟩ ?_
 refine go_seq ?_
 refine go_region rfl ?_
 refine go_pure0 Tk rfl rfl rfl ?_
 refine go_pure0 Tk rfl rfl rfl ?_
 refine go_pure0 Tk rfl rfl rfl ?_
 refine go_nil ?_
 refine go_env [(0, _), (2, _), (4, _), (8, _), (9, _), (10, _)] ⟨rfl, rfl, rfl, rfl, rfl, rfl, trivial⟩ ?_
 refine go_seq ?_
 refine go_block ?_
 refine go_loop' (X := Nat × Nat) (fun x => [(9, .int .i64 (x.1 : Int)), (10, .int .i64 (x.2 : Int))]) [(0, _), (2, _), (4, _), (8, _)] (fun _ => []) (fun x => x.1 ≤ x.2 ∧ x.2 ≤ l.length ∧ (∀ y ∈ l.take x.1, cF y q < 0) ∧ ∀ y ∈ l.drop x.2, ¬ cF y q < 0) (fun x => x.2 - x.1) ((0, l.length)) ⟨rfl, rfl, rfl, rfl, rfl, rfl, trivial⟩ (by repeat constructor) ⟨by omega, by omega, by simp, by simp⟩ ?_
 intro ⟨i, j⟩ ⟨hij, hj, hlo, hhi⟩
 simp only at hij hj hlo hhi ⊢
 refine go_seq ?_
 refine go_seq ?_
 refine go_region rfl ?_
 refine go_pure0 Tk rfl rfl rfl ?_
 refine go_pure0 Tk rfl rfl rfl ?_
 refine go_pure0 Tk rfl rfl rfl ?_
 refine go_nil ?_
 refine go_env [(0, _), (2, _), (4, _), (8, _), (9, _), (10, _), (17, _)] ⟨rfl, rfl, rfl, rfl, rfl, rfl, rfl, trivial⟩ ?_
 refine go_condD rfl ?_ ?_
 ·intro c1
  refine go_skip ?_
  refine go_block ?_
  refine go_seq ?_
  refine go_region rfl ?_
  refine go_pure0 Tk rfl rfl rfl ?_
  refine go_pure0 Tk rfl rfl rfl ?_
  refine go_pure0 Tk rfl rfl rfl ?_
  refine go_i64 20 rfl (by omega) (by omega) ?_
  refine go_pure0 Tk rfl rfl rfl ?_
  refine go_re 21 (.int .u64 ((i + j : Nat) : Int)) (by show some (Value.int _ _) = _; rw [wrap_u64 (by omega)]; rfl) ?_
  refine go_pure0 Tk rfl rfl rfl ?_
  refine go_re 22 (.int .u64 (((i + j) / 2 : Nat) : Int)) (by show some (Value.int _ _) = _; rw [← half]) ?_
  refine go_pure0 Tk rfl rfl rfl ?_
  refine go_i64 23 rfl (by omega) (by omega) ?_
  obtain ⟨h, hh⟩ : ∃ h, h = (i + j) / 2 := ⟨_, rfl⟩
  rw [← hh]
  have hih : i ≤ h ∧ h < j := by omega
  refine go_pure0 Tk rfl rfl rfl ?_
  refine go_nil ?_
  refine go_env [(0, _), (2, _), (4, _), (8, _), (9, _), (10, _), (11, _)] ⟨rfl, rfl, rfl, rfl, rfl, rfl, rfl, trivial⟩ ?_
  refine go_seq ?_
  refine go_ol_open (xs := l) (by repeat constructor) (by omega) (fun b0 cs cur hA h1 h2 h3 h4 h5 => ?_); cases hA
  refine go_rps_at (by repeat constructor) (h) (List.getElem?_eq_getElem (by omega)) (fun ds d1 d2 => ?_)
  refine go_rp_fa' (by repeat constructor) (fun FA fc hd => ?_); subst hd
  refine go_draw'  [4, 5] (SL.pre [(1, 0), (1, 1), (1, 2), (1, 3), (2, 4), (2, 5), (0, 6), (1, 7)] .nil) mixed rfl (by kernel_rfl) ?_
  refine go_pure1 Tk rfl rfl rfl ?_
  refine go_pure1 Tk rfl rfl rfl ?_
  refine go_pure1 Tk rfl rfl rfl ?_
  refine go_val1 rfl (idx_val Tk rfl rfl rfl rfl rfl (by omega)) rfl ?_
  refine go_val2a rfl (load_val Tk rfl rfl rfl (at_row 0 (by repeat constructor) h2 d2 rfl) rfl) rfl ?_
  refine go_val2a rfl (ldv Tk rfl rfl rfl) rfl ?_
  refine go_call (atomsCompare _ _ _ _ _ _ _ _) rfl rfl (by rfl) rfl (by repeat constructor) (by repeat constructor) (fun h => nomatch h) ?_
  rintro _ _ _ ⟨rfl, rfl, rfl⟩
  refine go_pure1 Tk rfl rfl rfl ?_
  refine go_nil ?_
  refine go_ol_close l (by repeat constructor) (by repeat constructor) h1 h2 h3 h4 ?_
  refine go_env [(0, _), (2, _), (4, _), (8, _), (9, _), (10, _), (11, _), (31, _)] ⟨rfl, rfl, rfl, rfl, rfl, rfl, rfl, rfl, trivial⟩ ?_
  refine go_condD rfl ?_ ?_
  ·intro c2
   refine go_region rfl ?_
   refine go_pure0 Tk rfl rfl rfl ?_
   refine go_pure0 Tk rfl rfl rfl ?_
   refine go_i64 33 rfl (by omega) (by omega) ?_
   refine go_pure0 Tk rfl rfl rfl ?_
   refine go_nil ?_
   refine go_env [(0, _), (2, _), (4, _), (8, _), (9, _), (10, _)] ⟨rfl, rfl, rfl, rfl, rfl, rfl, trivial⟩ ?_
   refine go_blk ?_
   refine go_back (h + 1, j) ⟨rfl, rfl, rfl, rfl, rfl, rfl, trivial⟩ (by repeat constructor) (by repeat constructor) ⟨by show h + 1 ≤ j; omega, hj, rises_take hr (by omega) c2, hhi⟩ (by show j - (h + 1) < j - i; omega)
  ·intro c2
   refine go_region rfl ?_
   refine go_pure0 Tk rfl rfl rfl ?_
   refine go_pure0 Tk rfl rfl rfl ?_
   refine go_nil ?_
   refine go_env [(0, _), (2, _), (4, _), (8, _), (9, _), (10, _)] ⟨rfl, rfl, rfl, rfl, rfl, rfl, trivial⟩ ?_
   refine go_blk ?_
   refine go_back (i, h) ⟨rfl, rfl, rfl, rfl, rfl, rfl, trivial⟩ (by repeat constructor) (by repeat constructor) ⟨by show i ≤ h; omega, by show h ≤ _; omega, hlo, rises_drop hr (by omega) c2⟩ (by show h - i < j - i; omega)
 ·intro c1
  refine go_exit rfl ?_
  refine go_seq ?_
  by_cases hin : i < l.length
  ·skip
   refine go_ol_open (xs := l) (by repeat constructor) (by omega) (fun b0 cs cur hA h1 h2 h3 h4 h5 => ?_); cases hA
   refine go_rps_at (by repeat constructor) (i) (List.getElem?_eq_getElem (by omega)) (fun ds d1 d2 => ?_)
   refine go_rp_fa' (by repeat constructor) (fun FA fc hd => ?_); subst hd
   refine go_draw'  [9, 10] (SL.pre [(1, 0), (1, 1), (1, 2), (1, 3), (1, 4), (1, 5), (1, 6), (1, 7), (1, 8), (2, 9), (2, 10), (0, 11), (1, 12), (1, 13), (1, 14), (1, 15)] .nil) mixed rfl (by kernel_rfl) ?_
   refine go_pure1 Tk rfl rfl rfl ?_
   refine go_pure1 Tk rfl rfl rfl ?_
   refine go_pure1 Tk rfl rfl rfl ?_
   refine go_pure1 Tk rfl rfl rfl ?_
   refine go_re 38 (.bool true) (by show some (Value.bool (decide _)) = _; rw [decide_eq_true (by omega)]) ?_
   refine go_pure1 Tk rfl rfl rfl ?_
   refine go_pure1 Tk rfl rfl rfl ?_
   refine go_pure1 Tk rfl rfl rfl ?_
   refine go_pure1 Tk rfl rfl rfl ?_
   refine go_val1 rfl (idx_val Tk rfl rfl rfl rfl rfl (by omega)) rfl ?_
   refine go_val2a rfl (load_val Tk rfl rfl rfl (at_row 0 (by repeat constructor) h2 d2 rfl) rfl) rfl ?_
   refine go_val2a rfl (ldv Tk rfl rfl rfl) rfl ?_
   refine go_call (atomsCompare _ _ _ _ _ _ _ _) rfl rfl (by rfl) rfl (by repeat constructor) (by repeat constructor) (fun h => nomatch h) ?_
   rintro _ _ _ ⟨rfl, rfl, rfl⟩
   refine go_pure1 Tk rfl rfl rfl ?_
   refine go_pure1 Tk rfl rfl rfl ?_
   refine go_pure1 Tk rfl rfl rfl ?_
   refine go_pure1 Tk rfl rfl rfl ?_
   refine go_nil ?_
   refine go_ol_close l (by repeat constructor) (by repeat constructor) h1 h2 h3 h4 ?_
   refine go_env [(6, _), (7, _)] ⟨rfl, rfl, trivial⟩ ?_
   refine go_ret ⟨rfl, rfl⟩ _ _ (res2 (by rfl) (.tmp rfl) (.tmp rfl)) ⟨by rw [bin_yes hr hin (by omega) hlo (by have := hhi; rwa [show j = i from by omega] at this)], rfl, rfl⟩ (by repeat constructor) (by repeat constructor)
  ·skip
   refine go_draw'  [9, 10] (SL.pre [(1, 0), (1, 1), (1, 2), (1, 3), (1, 4), (1, 5), (1, 6), (1, 7), (1, 8), (2, 9), (2, 10), (0, 11), (1, 12), (1, 13), (1, 14), (1, 15)] .nil) mixed rfl (by kernel_rfl) ?_
   refine go_pure1 Tk rfl rfl rfl ?_
   refine go_pure1 Tk rfl rfl rfl ?_
   refine go_pure1 Tk rfl rfl rfl ?_
   refine go_pure1 Tk rfl rfl rfl ?_
   refine go_re 38 (.bool false) (by show some (Value.bool (decide _)) = _; rw [decide_eq_false (by omega)]) ?_
   refine go_pure1 Tk rfl rfl rfl ?_
   refine go_skip1 rfl rfl ?_
   refine go_skip1 rfl rfl ?_
   refine go_skip1 rfl rfl ?_
   refine go_skip1 rfl rfl ?_
   refine go_skip2 rfl (by repeat constructor) (by repeat constructor) rfl ?_
   refine go_skip2 rfl (by repeat constructor) (by repeat constructor) rfl ?_
   refine go_skip0 rfl rfl ?_
   refine go_skip1 rfl rfl ?_
   refine go_pure1 Tk rfl rfl rfl ?_
   refine go_pure1 Tk rfl rfl rfl ?_
   refine go_pure1 Tk rfl rfl rfl ?_
   refine go_nil ?_
   refine go_env [(6, _), (7, _)] ⟨rfl, rfl, trivial⟩ ?_
   refine go_ret ⟨rfl, rfl⟩ _ _ (res2 (by rfl) (.tmp rfl) (.tmp rfl)) ⟨by rw [bin_no hr (by omega) hlo], rfl, rfl⟩ (by repeat constructor) (by repeat constructor)

end Go.Proofs.YtkhddfknpegpmaaGreat.SL

/- Contracts of functions of the program (Relb): what each call comes to, for the laws' proofs. -/
set_option linter.unusedVariables false
set_option linter.unusedSimpArgs false
namespace Go.Proofs.YtkhddfknpegpmaaGreat.SL
open Go 

/-- A set of facts in memory. -/
def relO (b : Nat) (l : List Fa) : OA := OA.ex fun A : Option Addr => OA.ex fun c : Nat => OA.all [pt b 97 [.slice A (l).length c], ol tFa 52 A c (l)]
theorem relO_mk {b : Nat} {A : Option Addr} {c : Nat} {l : List Fa} {hp h : Heap} (q : Sep hp [pt b 97 [.slice A (l).length c], ol tFa 52 A c (l)] h) : (relO b l).p hp h := ⟨A, c, q⟩
theorem go_rel {C : Ctx} {k : List It} {E : Env} {Ps : List PA} {Os : List OA} {b : Nat} {l : List Fa} {rr : List OA} (h : Rem (relO b l) Os rr) (g : ∀ (A : Option Addr) (c : Nat), Go C k E Ps ([pt b 97 [.slice A (l).length c], ol tFa 52 A c (l)] ++ rr)) : Go C k E Ps Os :=
  go_oex h fun A => go_oex .here fun c => go_oall .here (g A c)

set_option maxHeartbeats 2000000 in
set_option maxRecDepth 20000 in
theorem relNew  :
    Spec Tryz.prog 31 #[] [] [] (fun v Ps' Os' => ∃ b, v = .pointer (some ⟨b, 0, none⟩) ∧ Ps' = [] ∧ Os' = [relO b []]) := by
 refine spec_of (fn := Tryz.f31) (args := []) 3 Tryz.func31 rfl (by kernel_rfl) Tryz.ntmps31 (Nat.le_of_ble_eq_true rfl) (fun w0 hp0 hf0 => ?_)
 refine go_seq ?_
 refine go_region rfl ?_
 refine go_pure0 Tk rfl rfl rfl ?_
 refine go_nil ?_
 refine go_env [] trivial ?_
 refine go_seq ?_
 refine go_region rfl ?_
 refine go_val0 rfl (fun a w hp ho hf hs => build_val Tk rfl rfl rfl (by rfl) a w hf) rfl ?_
 refine go_box Tk rfl rfl rfl rfl (by rfl) rfl rfl (fun h => nomatch h) ?_
 intro b
 refine go_own_nil tFa 52 none ?_
 refine go_fold [pt b 97 [.slice none ([]).length 0], ol tFa 52 none 0 ([])] (relO b ([])) (by repeat constructor) (fun _ _ q => relO_mk q) ?_
 refine go_pure0 Tk rfl rfl rfl ?_
 refine go_nil ?_
 refine go_env [(0, _)] ⟨rfl, trivial⟩ ?_
 refine go_ret ⟨rfl, rfl⟩ _ _ (res1 (by rfl) (.tmp rfl)) ⟨_, rfl, rfl, rfl⟩ (by repeat constructor) (by repeat constructor)

set_option maxHeartbeats 2000000 in
set_option maxRecDepth 20000 in
theorem relPlace (b : Nat) (l : List Fa) (q : Fa) (QA : Option Addr) (qc : Nat) (hr : rises l) (hn : l.length ≤ 50000000) :
    Spec Tryz.prog 53 #[.pointer (some ⟨b, 0, none⟩), .agg #[.int .u32 q.p, .slice QA q.a.length qc]] [sl tU QA qc q.a] [relO b l] (fun v Ps' Os' => v = .tuple #[.int .i64 (at_ l q : Int), .bool (decide (q ∈ l))] ∧ Ps' = [] ∧ Os' = [relO b l]) := by
 refine spec_of (fn := Tryz.f53) (args := [.pointer (some ⟨b, 0, none⟩), .agg #[.int .u32 q.p, .slice QA q.a.length qc]]) 16 Tryz.func53 rfl (by kernel_rfl) Tryz.ntmps53 (Nat.le_of_ble_eq_true rfl) (fun w0 hp0 hf0 => ?_)
 refine go_seq ?_
 refine go_region rfl ?_
 refine go_box Tk rfl rfl rfl rfl (by rfl) rfl rfl (fun h => nomatch h) ?_
 intro b1
 refine go_pure0 Tk rfl rfl rfl ?_
 refine go_pure0 Tk rfl rfl rfl ?_
 refine go_nil ?_
 refine go_env [(0, _), (3, _)] ⟨rfl, rfl, trivial⟩ ?_
 refine go_seq ?_
 refine go_seq ?_
 refine go_region rfl ?_
 refine go_pure0 Tk rfl rfl rfl ?_
 refine go_pure0 Tk rfl rfl rfl ?_
 refine go_nil ?_
 refine go_env [(0, _), (3, _), (7, _)] ⟨rfl, rfl, rfl, trivial⟩ ?_
 refine go_cond_f rfl ?_
 refine go_skip ?_
 refine go_seq ?_
 refine go_rel (b := b) (by repeat constructor) (fun A1 c1 => ?_)
 refine go_draw'  [3, 4] (SL.pre [(1, 0), (1, 1), (1, 2), (2, 3), (2, 4), (0, 5), (1, 6), (1, 7), (1, 8), (1, 9)] .nil) mixed rfl (by kernel_rfl) ?_
 refine go_pure1 Tk rfl rfl rfl ?_
 refine go_pure1 Tk rfl rfl rfl ?_
 refine go_pure1 Tk rfl rfl rfl ?_
 refine go_val2a rfl (ldv Tk rfl rfl rfl) rfl ?_
 refine go_val2a rfl (ldv Tk rfl rfl rfl) rfl ?_
 refine go_call (binSearch A1 c1 l q QA qc hr hn) rfl rfl (by rfl) rfl (by repeat constructor) (by repeat constructor) (fun h => nomatch h) ?_
 rintro _ _ _ ⟨rfl, rfl, rfl⟩
 refine go_pure1 Tk rfl rfl rfl ?_
 refine go_pure1 Tk rfl rfl rfl ?_
 refine go_pure1 Tk rfl rfl rfl ?_
 refine go_pure1 Tk rfl rfl rfl ?_
 refine go_nil ?_
 refine go_fold [pt b 97 [.slice A1 (l).length c1], ol tFa 52 A1 c1 (l)] (relO b (l)) (by repeat constructor) (fun _ _ q => relO_mk q) ?_
 refine go_env [(4, _), (5, _)] ⟨rfl, rfl, trivial⟩ ?_
 refine go_ret ⟨rfl, rfl⟩ _ _ (res2 (by rfl) (.tmp rfl) (.tmp rfl)) ⟨rfl, rfl, rfl⟩ (by repeat constructor) (by repeat constructor)

set_option maxHeartbeats 2000000 in
set_option maxRecDepth 20000 in
theorem relPlace0 (q : Fa) (QA : Option Addr) (qc : Nat) :
    Spec Tryz.prog 53 #[.pointer none, .agg #[.int .u32 q.p, .slice QA q.a.length qc]] [] [] (fun v Ps' Os' => v = .tuple #[.int .i64 0, .bool false] ∧ Ps' = [] ∧ Os' = []) := by
 refine spec_of (fn := Tryz.f53) (args := [.pointer none, .agg #[.int .u32 q.p, .slice QA q.a.length qc]]) 16 Tryz.func53 rfl (by kernel_rfl) Tryz.ntmps53 (Nat.le_of_ble_eq_true rfl) (fun w0 hp0 hf0 => ?_)
 refine go_seq ?_
 refine go_region rfl ?_
 refine go_box Tk rfl rfl rfl rfl (by rfl) rfl rfl (fun h => nomatch h) ?_
 intro b1
 refine go_pure0 Tk rfl rfl rfl ?_
 refine go_pure0 Tk rfl rfl rfl ?_
 refine go_nil ?_
 refine go_env [(0, _), (3, _)] ⟨rfl, rfl, trivial⟩ ?_
 refine go_seq ?_
 refine go_seq ?_
 refine go_region rfl ?_
 refine go_pure0 Tk rfl rfl rfl ?_
 refine go_pure0 Tk rfl rfl rfl ?_
 refine go_nil ?_
 refine go_env [(0, _), (3, _), (7, _)] ⟨rfl, rfl, rfl, trivial⟩ ?_
 refine go_cond_t rfl ?_
 refine go_seq ?_
 refine go_region rfl ?_
 refine go_pure0 Tk rfl rfl rfl ?_
 refine go_pure0 Tk rfl rfl rfl ?_
 refine go_nil ?_
 refine go_env [(4, _), (5, _)] ⟨rfl, rfl, trivial⟩ ?_
 refine go_ret ⟨rfl, rfl⟩ _ _ (res2 (by rfl) (.tmp rfl) (.tmp rfl)) ⟨rfl, rfl, rfl⟩ (by repeat constructor) (by repeat constructor)

set_option maxHeartbeats 2000000 in
set_option maxRecDepth 20000 in
theorem relHas (b : Nat) (l : List Fa) (q : Fa) (QA : Option Addr) (qc : Nat) (hr : rises l) (hn : l.length ≤ 50000000) :
    Spec Tryz.prog 51 #[.pointer (some ⟨b, 0, none⟩), .agg #[.int .u32 q.p, .slice QA q.a.length qc]] [sl tU QA qc q.a] [relO b l] (fun v Ps' Os' => v = .bool (decide (q ∈ l)) ∧ Ps' = [] ∧ Os' = [relO b l]) := by
 refine spec_of (fn := Tryz.f51) (args := [.pointer (some ⟨b, 0, none⟩), .agg #[.int .u32 q.p, .slice QA q.a.length qc]]) 14 Tryz.func51 rfl (by kernel_rfl) Tryz.ntmps51 (Nat.le_of_ble_eq_true rfl) (fun w0 hp0 hf0 => ?_)
 refine go_seq ?_
 refine go_region rfl ?_
 refine go_box Tk rfl rfl rfl rfl (by rfl) rfl rfl (fun h => nomatch h) ?_
 intro b1
 refine go_pure0 Tk rfl rfl rfl ?_
 refine go_nil ?_
 refine go_env [(0, _), (3, _)] ⟨rfl, rfl, trivial⟩ ?_
 refine go_seq ?_
 refine go_region rfl ?_
 refine go_pure0 Tk rfl rfl rfl ?_
 refine go_val0 rfl (ldv Tk rfl rfl rfl) rfl ?_
 refine go_call (relPlace b l q QA qc hr hn) rfl rfl (by rfl) rfl (by repeat constructor) (by repeat constructor) (fun h => nomatch h) ?_
 rintro _ _ _ ⟨rfl, rfl, rfl⟩
 refine go_pure0 Tk rfl rfl rfl ?_
 refine go_pure0 Tk rfl rfl rfl ?_
 refine go_pure0 Tk rfl rfl rfl ?_
 refine go_pure0 Tk rfl rfl rfl ?_
 refine go_pure0 Tk rfl rfl rfl ?_
 refine go_nil ?_
 refine go_env [(6, _)] ⟨rfl, trivial⟩ ?_
 refine go_seq ?_
 refine go_region rfl ?_
 refine go_pure0 Tk rfl rfl rfl ?_
 refine go_pure0 Tk rfl rfl rfl ?_
 refine go_nil ?_
 refine go_env [(4, _)] ⟨rfl, trivial⟩ ?_
 refine go_ret ⟨rfl, rfl⟩ _ _ (res1 (by rfl) (.tmp rfl)) ⟨rfl, rfl, rfl⟩ (by repeat constructor) (by repeat constructor)

set_option maxHeartbeats 2000000 in
set_option maxRecDepth 20000 in
theorem relHas0 (q : Fa) (QA : Option Addr) (qc : Nat) :
    Spec Tryz.prog 51 #[.pointer none, .agg #[.int .u32 q.p, .slice QA q.a.length qc]] [] [] (fun v Ps' Os' => v = .bool false ∧ Ps' = [] ∧ Os' = []) := by
 refine spec_of (fn := Tryz.f51) (args := [.pointer none, .agg #[.int .u32 q.p, .slice QA q.a.length qc]]) 14 Tryz.func51 rfl (by kernel_rfl) Tryz.ntmps51 (Nat.le_of_ble_eq_true rfl) (fun w0 hp0 hf0 => ?_)
 refine go_seq ?_
 refine go_region rfl ?_
 refine go_box Tk rfl rfl rfl rfl (by rfl) rfl rfl (fun h => nomatch h) ?_
 intro b1
 refine go_pure0 Tk rfl rfl rfl ?_
 refine go_nil ?_
 refine go_env [(0, _), (3, _)] ⟨rfl, rfl, trivial⟩ ?_
 refine go_seq ?_
 refine go_region rfl ?_
 refine go_pure0 Tk rfl rfl rfl ?_
 refine go_val0 rfl (ldv Tk rfl rfl rfl) rfl ?_
 refine go_call (relPlace0 q QA qc) rfl rfl (by rfl) rfl (by repeat constructor) (by repeat constructor) (fun h => nomatch h) ?_
 rintro _ _ _ ⟨rfl, rfl, rfl⟩
 refine go_pure0 Tk rfl rfl rfl ?_
 refine go_pure0 Tk rfl rfl rfl ?_
 refine go_pure0 Tk rfl rfl rfl ?_
 refine go_pure0 Tk rfl rfl rfl ?_
 refine go_pure0 Tk rfl rfl rfl ?_
 refine go_nil ?_
 refine go_env [(6, _)] ⟨rfl, trivial⟩ ?_
 refine go_seq ?_
 refine go_region rfl ?_
 refine go_pure0 Tk rfl rfl rfl ?_
 refine go_pure0 Tk rfl rfl rfl ?_
 refine go_nil ?_
 refine go_env [(4, _)] ⟨rfl, trivial⟩ ?_
 refine go_ret ⟨rfl, rfl⟩ _ _ (res1 (by rfl) (.tmp rfl)) ⟨rfl, rfl, rfl⟩ (by repeat constructor) (by repeat constructor)

set_option maxHeartbeats 2000000 in
set_option maxRecDepth 20000 in
theorem relLen (b : Nat) (l : List Fa) :
    Spec Tryz.prog 37 #[.pointer (some ⟨b, 0, none⟩)] [] [relO b l] (fun v Ps' Os' => v = .int .i64 (l.length : Int) ∧ Ps' = [] ∧ Os' = [relO b l]) := by
 refine spec_of (fn := Tryz.f37) (args := [.pointer (some ⟨b, 0, none⟩)]) 10 Tryz.func37 rfl (by kernel_rfl) Tryz.ntmps37 (Nat.le_of_ble_eq_true rfl) (fun w0 hp0 hf0 => ?_)
 refine go_seq ?_
 refine go_region rfl ?_
 refine go_pure0 Tk rfl rfl rfl ?_
 refine go_nil ?_
 refine go_env [(0, _)] ⟨rfl, trivial⟩ ?_
 refine go_seq ?_
 refine go_seq ?_
 refine go_region rfl ?_
 refine go_pure0 Tk rfl rfl rfl ?_
 refine go_pure0 Tk rfl rfl rfl ?_
 refine go_nil ?_
 refine go_env [(0, _), (4, _)] ⟨rfl, rfl, trivial⟩ ?_
 refine go_cond_f rfl ?_
 refine go_skip ?_
 refine go_seq ?_
 refine go_rel (b := b) (by repeat constructor) (fun A1 c1 => ?_)
 refine go_region rfl ?_
 refine go_pure0 Tk rfl rfl rfl ?_
 refine go_pure0 Tk rfl rfl rfl ?_
 refine go_pure0 Tk rfl rfl rfl ?_
 refine go_val0 rfl (ldv Tk rfl rfl rfl) rfl ?_
 refine go_pure0 Tk rfl rfl rfl ?_
 refine go_pure0 Tk rfl rfl rfl ?_
 refine go_nil ?_
 refine go_fold [pt b 97 [.slice A1 (l).length c1], ol tFa 52 A1 c1 (l)] (relO b (l)) (by repeat constructor) (fun _ _ q => relO_mk q) ?_
 refine go_env [(2, _)] ⟨rfl, trivial⟩ ?_
 refine go_ret ⟨rfl, rfl⟩ _ _ (res1 (by rfl) (.tmp rfl)) ⟨rfl, rfl, rfl⟩ (by repeat constructor) (by repeat constructor)

set_option maxHeartbeats 2000000 in
set_option maxRecDepth 20000 in
theorem relLen0  :
    Spec Tryz.prog 37 #[.pointer none] [] [] (fun v Ps' Os' => v = .int .i64 0 ∧ Ps' = [] ∧ Os' = []) := by
 refine spec_of (fn := Tryz.f37) (args := [.pointer none]) 10 Tryz.func37 rfl (by kernel_rfl) Tryz.ntmps37 (Nat.le_of_ble_eq_true rfl) (fun w0 hp0 hf0 => ?_)
 refine go_seq ?_
 refine go_region rfl ?_
 refine go_pure0 Tk rfl rfl rfl ?_
 refine go_nil ?_
 refine go_env [(0, _)] ⟨rfl, trivial⟩ ?_
 refine go_seq ?_
 refine go_seq ?_
 refine go_region rfl ?_
 refine go_pure0 Tk rfl rfl rfl ?_
 refine go_pure0 Tk rfl rfl rfl ?_
 refine go_nil ?_
 refine go_env [(0, _), (4, _)] ⟨rfl, rfl, trivial⟩ ?_
 refine go_cond_t rfl ?_
 refine go_seq ?_
 refine go_region rfl ?_
 refine go_pure0 Tk rfl rfl rfl ?_
 refine go_nil ?_
 refine go_env [(2, _)] ⟨rfl, trivial⟩ ?_
 refine go_ret ⟨rfl, rfl⟩ _ _ (res1 (by rfl) (.tmp rfl)) ⟨rfl, rfl, rfl⟩ (by repeat constructor) (by repeat constructor)



end Go.Proofs.YtkhddfknpegpmaaGreat.SL

/- Contracts of functions of the program (Relins): what each call comes to, for the laws' proofs. -/
set_option linter.unusedVariables false
set_option linter.unusedSimpArgs false
namespace Go.Proofs.YtkhddfknpegpmaaGreat.SL
open Go 

set_option maxHeartbeats 2000000 in
set_option maxRecDepth 20000 in
theorem insertFa (A : Option Addr) (c : Nat) (l : List Fa) (k bv : Nat) (q : Fa) (QA : Option Addr) (qc : Nat) (hk : k ≤ l.length) (hn : l.length ≤ 50000000) :
    Spec Tryz.prog 54 #[.slice A l.length c, .int .i64 (k : Int), .slice (some ⟨bv, 0, none⟩) 1 1] [sl tU QA qc q.a] [ol tFa 52 A c l, pt bv 52 [Value.int IntKind.u32 q.p, Value.slice QA q.a.length qc]] (fun v Ps' Os' => ∃ A2 c2, v = .slice A2 (l.take k ++ q :: l.drop k).length c2 ∧ Ps' = [] ∧ Os' = [ol tFa 52 A2 c2 (l.take k ++ q :: l.drop k)]) := by
 refine spec_of (fn := Tryz.f54) (args := [.slice A l.length c, .int .i64 (k : Int), .slice (some ⟨bv, 0, none⟩) 1 1]) 95 Tryz.func54 rfl (by kernel_rfl) Tryz.ntmps54 (Nat.le_of_ble_eq_true rfl) (fun w0 hp0 hf0 => ?_)
 refine go_seq ?_
 refine go_len_ol (xs := l) (by repeat constructor) (fun l0 m0 => ?_)
 refine go_region rfl ?_
 refine go_pure0 Tk rfl rfl rfl ?_
 refine go_nil ?_
 refine go_env [(0, _), (1, _), (2, _)] ⟨rfl, rfl, rfl, trivial⟩ ?_
 refine go_seq ?_
 refine go_region rfl ?_
 refine go_pure0 Tk rfl rfl rfl ?_
 refine go_pure0 Tk rfl rfl rfl ?_
 refine go_val0 rfl (slice_val' Tk rfl rfl rfl rfl k l.length c _ (by first | rfl | exact ⟨_, rfl⟩ | exact ⟨rfl, rfl⟩) (by first | rfl | exact ⟨_, rfl⟩ | exact ⟨rfl, rfl⟩) (by first | rfl | exact ⟨_, rfl⟩ | exact ⟨rfl, rfl⟩) hk (by omega) (by omega) rfl) rfl ?_
 refine go_nil ?_
 refine go_env [(0, _), (1, _), (2, _)] ⟨rfl, rfl, rfl, trivial⟩ ?_
 refine go_seq ?_
 refine go_region rfl ?_
 refine go_pure0 Tk rfl rfl rfl ?_
 refine go_pure0 Tk rfl rfl rfl ?_
 refine go_pure0 Tk rfl rfl rfl ?_
 refine go_nil ?_
 refine go_env [(0, _), (1, _), (2, _), (7, _)] ⟨rfl, rfl, rfl, rfl, trivial⟩ ?_
 refine go_seq ?_
 refine go_seq ?_
 refine go_region rfl ?_
 refine go_pure0 Tk rfl rfl rfl ?_
 refine go_pure0 Tk rfl rfl rfl ?_
 refine go_nil ?_
 refine go_env [(0, _), (1, _), (2, _), (7, _), (16, _)] ⟨rfl, rfl, rfl, rfl, rfl, trivial⟩ ?_
 refine go_condD rfl ?_ ?_
 ·intro c1
  exfalso; omega
 ·intro c1
  refine go_skip ?_
  refine go_seq ?_
  refine go_region rfl ?_
  refine go_pure0 Tk rfl rfl rfl ?_
  refine go_pure0 Tk rfl rfl rfl ?_
  refine go_pure0 Tk rfl rfl rfl ?_
  refine go_nil ?_
  refine go_env [(0, _), (1, _), (2, _), (7, _), (8, _)] ⟨rfl, rfl, rfl, rfl, rfl, trivial⟩ ?_
  refine go_seq ?_
  refine go_seq ?_
  refine go_region rfl ?_
  refine go_pure0 Tk rfl rfl rfl ?_
  refine go_pure0 Tk rfl rfl rfl ?_
  refine go_pure0 Tk rfl rfl rfl ?_
  refine go_nil ?_
  refine go_env [(0, _), (1, _), (2, _), (7, _), (8, _), (22, _)] ⟨rfl, rfl, rfl, rfl, rfl, rfl, trivial⟩ ?_
  refine go_condD rfl ?_ ?_
  ·intro ck
   obtain rfl : k = l.length := by omega
   rw [List.take_length, List.drop_length]
   refine go_seq ?_
   refine go_region rfl ?_
   refine go_pure0 Tk rfl rfl rfl ?_
   refine go_pure0 Tk rfl rfl rfl ?_
   refine go_append1 (T := tFa) Tk q rfl rfl rfl rfl rfl rfl rfl rfl rfl (by repeat constructor) (by repeat constructor) rfl (ent_fa (by repeat constructor)) (by omega) (fun h => nomatch h) ?_
   intro A2 c2
   refine go_pure0 Tk rfl rfl rfl ?_
   refine go_nil ?_
   refine go_env [(6, _)] ⟨rfl, trivial⟩ ?_
   refine go_ret ⟨rfl, rfl⟩ _ _ (res1 (by rfl) (.tmp rfl)) ⟨A2, c2, rfl, rfl, rfl⟩ (by repeat constructor) (by repeat constructor)
  ·intro ck
   refine go_skip ?_
   refine go_seq ?_
   refine go_seq ?_
   refine go_region rfl ?_
   refine go_pure0 Tk rfl rfl rfl ?_
   refine go_pure0 Tk rfl rfl rfl ?_
   refine go_pure0 Tk rfl rfl rfl ?_
   refine go_i64 28 rfl (by omega) (by omega) ?_
   refine go_pure0 Tk rfl rfl rfl ?_
   refine go_pure0 Tk rfl rfl rfl ?_
   refine go_pure0 Tk rfl rfl rfl ?_
   refine go_nil ?_
   refine go_env [(0, _), (1, _), (2, _), (7, _), (8, _), (31, _)] ⟨rfl, rfl, rfl, rfl, rfl, rfl, trivial⟩ ?_
   refine go_condD rfl ?_ ?_
   ·intro cc
    refine go_ol_open (xs := l) (by repeat constructor) (by omega) (fun b cs cur hA h1 h2 h3 h4 h5 => ?_); cases hA
    refine go_fact (rps tFa l cs) (by repeat constructor) (fun _ q => Reps.one q) (fun hone => ?_)
    refine go_seq ?_
    refine go_region rfl ?_
    refine go_pure0 Tk rfl rfl rfl ?_
    refine go_pure0 Tk rfl rfl rfl ?_
    refine go_val0 rfl (slice_val' Tk rfl rfl rfl rfl 0 k c (.slice (some ⟨b, 0, none⟩) k c) (by first | rfl | exact ⟨_, rfl⟩ | exact ⟨rfl, rfl⟩) (by first | rfl | exact ⟨_, rfl⟩ | exact ⟨rfl, rfl⟩) (by first | rfl | exact ⟨_, rfl⟩ | exact ⟨rfl, rfl⟩) (by omega) (by omega) (by omega) (by rw [sub0]; rfl)) rfl ?_
    refine go_pure0 Tk rfl rfl rfl ?_
    refine go_pure0 Tk rfl rfl rfl ?_
    refine go_pure0 Tk rfl rfl rfl ?_
    refine go_i64 37 rfl (by omega) (by omega) ?_
    refine go_pure0 Tk rfl rfl rfl ?_
    refine go_pure0 Tk rfl rfl rfl ?_
    refine go_i64 39 rfl (by omega) (by omega) ?_
    refine go_re 39 (.int .i64 ((l.length + 1 - k : Nat) : Int)) (by show some (Value.int _ _) = some (Value.int _ _); congr 2; omega) ?_
    refine go_append_zeros (m := l.length + 1 - k) (old := cs.take (k * tFa.size)) Tk rfl rfl rfl rfl rfl rfl rfl rfl rfl rfl (at_head (b := b) (cur := cur) (by repeat constructor) h2 (by rw [h5]; exact Nat.mul_le_mul_right _ hk) rfl) (by omega) (by omega) (by omega) rfl (fun h => nomatch h) ?_
    intro b2 c2 cur2 g1 g2 g3 g4
    rw [show k + (l.length + 1 - k) = l.length + 1 from by omega]
    have hins := ins_cells (v := [Value.int IntKind.u32 q.p, Value.slice QA q.a.length qc]) h5 rfl g1 g2 hk (by omega) (0 + k * tFa.size) (0 + (k + 1) * tFa.size) (Nat.zero_add _) (Nat.zero_add _)
    refine go_pure0 Tk rfl rfl rfl ?_
    refine go_nil ?_
    refine go_env [(0, _), (1, _), (2, _), (7, _), (9, _)] ⟨rfl, rfl, rfl, rfl, rfl, trivial⟩ ?_
    refine go_seq ?_
    refine go_region rfl ?_
    refine go_pure0 Tk rfl rfl rfl ?_
    refine go_pure0 Tk rfl rfl rfl ?_
    refine go_val0 rfl (slice_val' Tk rfl rfl rfl rfl k (l.length + 1) c2 (.slice (some ⟨b2, 0 + k * tFa.size, none⟩) (l.length + 1 - k) (c2 - k)) (by first | rfl | exact ⟨_, rfl⟩ | exact ⟨rfl, rfl⟩) (by first | rfl | exact ⟨_, rfl⟩ | exact ⟨rfl, rfl⟩) (by first | rfl | exact ⟨_, rfl⟩ | exact ⟨rfl, rfl⟩) (by omega) (by omega) (by omega) (by rw [subN (by omega)]; rfl)) rfl ?_
    refine go_pure0 Tk rfl rfl rfl ?_
    refine go_copy (b := b2) (news := [Value.int IntKind.u32 q.p, Value.slice QA q.a.length qc]) Tk rfl rfl rfl rfl rfl rfl rfl (by repeat constructor) 1 (by show Nat.min 1 _ = 1; exact Nat.min_eq_left (by omega)) (at_pt (b := bv) (by repeat constructor) rfl) rfl hins.2.2.1 (fun h => nomatch h) ?_
    refine go_nil ?_
    refine go_env [(0, _), (1, _), (7, _), (9, _)] ⟨rfl, rfl, rfl, rfl, trivial⟩ ?_
    refine go_seq ?_
    refine go_draw'  [] (SL.pre [(1, 0), (1, 1), (1, 2), (1, 3), (1, 4), (1, 5), (1, 6), (1, 7), (0, 8)] .nil) mixed rfl (by kernel_rfl) ?_
    refine go_pure1 Tk rfl rfl rfl ?_
    refine go_pure1 Tk rfl rfl rfl ?_
    refine go_pure1 Tk rfl rfl rfl ?_
    refine go_pure1 Tk rfl rfl rfl ?_
    refine go_i64 49 rfl (by omega) (by omega) ?_
    refine go_val1 rfl (slice_val' Tk rfl rfl rfl rfl (k + 1) (l.length + 1) c2 (.slice (some ⟨b2, 0 + (k + 1) * tFa.size, none⟩) (l.length + 1 - (k + 1)) (c2 - (k + 1))) (by first | rfl | exact ⟨_, rfl⟩ | exact ⟨rfl, rfl⟩) (by first | rfl | exact ⟨_, rfl⟩ | exact ⟨rfl, rfl⟩) (by first | rfl | exact ⟨_, rfl⟩ | exact ⟨rfl, rfl⟩) (by omega) (by omega) (by omega) (by rw [subN (by omega)]; rfl)) rfl ?_
    refine go_pure1 Tk rfl rfl rfl ?_
    refine go_pure1 Tk rfl rfl rfl ?_
    refine go_val1 rfl (slice_val' Tk rfl rfl rfl rfl k l.length c (.slice (some ⟨b, 0 + k * tFa.size, none⟩) (l.length - k) (c - k)) (by first | rfl | exact ⟨_, rfl⟩ | exact ⟨rfl, rfl⟩) (by first | rfl | exact ⟨_, rfl⟩ | exact ⟨rfl, rfl⟩) (by first | rfl | exact ⟨_, rfl⟩ | exact ⟨rfl, rfl⟩) (by omega) (by omega) (by omega) (by rw [subN (by omega)]; rfl)) rfl ?_
    refine go_copy (b := b2) (b2 := b) (news := cs.drop (k * tFa.size)) Tk rfl rfl rfl rfl rfl rfl rfl (by repeat constructor) (l.length - k) (by show Nat.min _ _ = _; exact Nat.min_eq_left (by omega)) (at_any (b := b) (e := 52) (cur := cur) (by repeat constructor) (by rw [List.length_drop, h5, Nat.sub_mul]; rfl) (cut_news h2 _ (.inr (Nat.zero_add _)))) (oneCells_drop _ hone) hins.2.2.2 (fun h => nomatch h) ?_
    refine go_ent (rps tFa (l.take k ++ q :: l.drop k) (cs.take (k * tFa.size) ++ ([Value.int IntKind.u32 q.p, Value.slice QA q.a.length qc] ++ cs.drop (k * tFa.size)))) (fun hh a => Reps.ins (a (rps tFa l cs) (by repeat constructor)) (tFa_mk (a (sl tU QA qc q.a) (by repeat constructor))) hk) ?_
    have hlen : (l.take k ++ q :: l.drop k).length = l.length + 1 := by simp; omega
    refine go_ol_close (l.take k ++ q :: l.drop k) (by repeat constructor) (by repeat constructor) hins.2.1 (by rw [hlen]; exact hins.1) (by omega) (by assumption) ?_
    rw [show l.length + 1 = (l.take k ++ q :: l.drop k).length from hlen.symm]
    refine go_nil ?_
    refine go_env [(9, _)] ⟨rfl, trivial⟩ ?_
    refine go_seq ?_
    refine go_region rfl ?_
    refine go_pure0 Tk rfl rfl rfl ?_
    refine go_pure0 Tk rfl rfl rfl ?_
    refine go_nil ?_
    refine go_env [(6, _)] ⟨rfl, trivial⟩ ?_
    refine go_ret ⟨rfl, rfl⟩ _ _ (res1 (by rfl) (.tmp rfl)) ⟨_, c2, rfl, rfl, rfl⟩ (by repeat constructor) (by repeat constructor)
   ·intro cc
    refine go_ol_open (xs := l) (by repeat constructor) (by omega) (fun b cs cur hA h1 h2 h3 h4 h5 => ?_); cases hA
    refine go_fact (rps tFa l cs) (by repeat constructor) (fun _ q => Reps.one q) (fun hone => ?_)
    refine go_skip ?_
    refine go_seq ?_
    refine go_region rfl ?_
    refine go_pure0 Tk rfl rfl rfl ?_
    refine go_pure0 Tk rfl rfl rfl ?_
    refine go_pure0 Tk rfl rfl rfl ?_
    refine go_pure0 Tk rfl rfl rfl ?_
    refine go_i64 59 rfl (by omega) (by omega) ?_
    refine go_val0 rfl (slice_val' Tk rfl rfl rfl rfl 0 (l.length + 1) c (.slice (some ⟨b, 0, none⟩) (l.length + 1) c) (by first | rfl | exact ⟨_, rfl⟩ | exact ⟨rfl, rfl⟩) (by first | rfl | exact ⟨_, rfl⟩ | exact ⟨rfl, rfl⟩) (by first | rfl | exact ⟨_, rfl⟩ | exact ⟨rfl, rfl⟩) (by omega) (by omega) (by omega) (by rw [sub0]; rfl)) rfl ?_
    refine go_pure0 Tk rfl rfl rfl ?_
    refine go_nil ?_
    refine go_env [(0, _), (1, _), (2, _), (7, _), (8, _)] ⟨rfl, rfl, rfl, rfl, rfl, trivial⟩ ?_
    refine go_seq ?_
    refine go_seq ?_
    refine go_region rfl ?_
    refine go_pure0 Tk rfl rfl rfl ?_
    refine go_pure0 Tk rfl rfl rfl ?_
    refine go_pure0 Tk rfl rfl rfl ?_
    refine go_pure0 Tk rfl rfl rfl ?_
    refine go_pure0 Tk rfl rfl rfl ?_
    refine go_i64 65 rfl (by omega) (by omega) ?_
    refine go_val0 rfl (slice_val' Tk rfl rfl rfl rfl (k + 1) (l.length + 1) c (.slice (some ⟨b, 0 + (k + 1) * tFa.size, none⟩) (l.length + 1 - (k + 1)) (c - (k + 1))) (by first | rfl | exact ⟨_, rfl⟩ | exact ⟨rfl, rfl⟩) (by first | rfl | exact ⟨_, rfl⟩ | exact ⟨rfl, rfl⟩) (by first | rfl | exact ⟨_, rfl⟩ | exact ⟨rfl, rfl⟩) (by omega) (by omega) (by omega) (by rw [subN (by omega)]; rfl)) rfl ?_
    refine go_val0 rfl (ext_val Tryz.func69 (by kernel_rfl) (by kernel_rfl) (by kernel_rfl) (e := Extern.SlicesOverlaps.overlaps #[29, 29] #[4]) (by kernel_rfl) rfl (by rfl) (apart_run Tk (tS := 29) rfl rfl (ba := bv) (bb := b) (by repeat constructor) (by repeat constructor) (fun e => by rw [e, List.length_nil] at h1; have := Nat.mul_pos (show 0 < c by omega) (show 0 < tFa.size by decide); omega))) rfl ?_
    refine go_pure0 Tk rfl rfl rfl ?_
    refine go_nil ?_
    refine go_env [(0, _), (1, _), (2, _), (7, _), (8, _), (68, _)] ⟨rfl, rfl, rfl, rfl, rfl, rfl, trivial⟩ ?_
    refine go_cond_t rfl ?_
    refine go_seq ?_
    have hins := ins_cells2 (v := [Value.int IntKind.u32 q.p, Value.slice QA q.a.length qc]) h5 rfl h1 h2 hk (by omega) (0 + k * tFa.size) (0 + (k + 1) * tFa.size) (Nat.zero_add _) (Nat.zero_add _)
    refine go_draw'  [] (SL.pre [(1, 0), (1, 1), (1, 2), (1, 3), (1, 4), (1, 5), (1, 6), (1, 7), (0, 8)] .nil) mixed rfl (by kernel_rfl) ?_
    refine go_pure1 Tk rfl rfl rfl ?_
    refine go_pure1 Tk rfl rfl rfl ?_
    refine go_pure1 Tk rfl rfl rfl ?_
    refine go_pure1 Tk rfl rfl rfl ?_
    refine go_i64 72 rfl (by omega) (by omega) ?_
    refine go_val1 rfl (slice_val' Tk rfl rfl rfl rfl (k + 1) (l.length + 1) c (.slice (some ⟨b, 0 + (k + 1) * tFa.size, none⟩) (l.length + 1 - (k + 1)) (c - (k + 1))) (by first | rfl | exact ⟨_, rfl⟩ | exact ⟨rfl, rfl⟩) (by first | rfl | exact ⟨_, rfl⟩ | exact ⟨rfl, rfl⟩) (by first | rfl | exact ⟨_, rfl⟩ | exact ⟨rfl, rfl⟩) (by omega) (by omega) (by omega) (by rw [subN (by omega)]; rfl)) rfl ?_
    refine go_pure1 Tk rfl rfl rfl ?_
    refine go_pure1 Tk rfl rfl rfl ?_
    refine go_val1 rfl (slice_val' Tk rfl rfl rfl rfl k (l.length + 1) c (.slice (some ⟨b, 0 + k * tFa.size, none⟩) (l.length + 1 - k) (c - k)) (by first | rfl | exact ⟨_, rfl⟩ | exact ⟨rfl, rfl⟩) (by first | rfl | exact ⟨_, rfl⟩ | exact ⟨rfl, rfl⟩) (by first | rfl | exact ⟨_, rfl⟩ | exact ⟨rfl, rfl⟩) (by omega) (by omega) (by omega) (by rw [subN (by omega)]; rfl)) rfl ?_
    refine go_copy (b := b) (b2 := b) (news := cs.drop (k * tFa.size)) Tk rfl rfl rfl rfl rfl rfl rfl (by repeat constructor) (l.length - k) (by show Nat.min _ _ = _; rw [show l.length + 1 - (k + 1) = l.length - k from by omega]; exact Nat.min_eq_right (by omega)) (at_any (b := b) (e := 52) (cur := cur) (by repeat constructor) (by rw [List.length_drop, h5, Nat.sub_mul]; rfl) (cut_news h2 _ (.inr (Nat.zero_add _)))) (oneCells_drop _ hone) hins.2.2.1 (fun h => nomatch h) ?_
    refine go_nil ?_
    refine go_env [(0, _), (1, _), (2, _)] ⟨rfl, rfl, rfl, trivial⟩ ?_
    refine go_seq ?_
    refine go_region rfl ?_
    refine go_pure0 Tk rfl rfl rfl ?_
    refine go_pure0 Tk rfl rfl rfl ?_
    refine go_val0 rfl (slice_val' Tk rfl rfl rfl rfl k (l.length + 1) c (.slice (some ⟨b, 0 + k * tFa.size, none⟩) (l.length + 1 - k) (c - k)) (by first | rfl | exact ⟨_, rfl⟩ | exact ⟨rfl, rfl⟩) (by first | rfl | exact ⟨_, rfl⟩ | exact ⟨rfl, rfl⟩) (by first | rfl | exact ⟨_, rfl⟩ | exact ⟨rfl, rfl⟩) (by omega) (by omega) (by omega) (by rw [subN (by omega)]; rfl)) rfl ?_
    refine go_pure0 Tk rfl rfl rfl ?_
    refine go_copy (b := b) (news := [Value.int IntKind.u32 q.p, Value.slice QA q.a.length qc]) Tk rfl rfl rfl rfl rfl rfl rfl (by repeat constructor) 1 (by show Nat.min 1 _ = 1; exact Nat.min_eq_left (by omega)) (at_pt (b := bv) (by repeat constructor) rfl) rfl hins.2.2.2 (fun h => nomatch h) ?_
    refine go_ent (rps tFa (l.take k ++ q :: l.drop k) (cs.take (k * tFa.size) ++ ([Value.int IntKind.u32 q.p, Value.slice QA q.a.length qc] ++ cs.drop (k * tFa.size)))) (fun hh a => Reps.ins (a (rps tFa l cs) (by repeat constructor)) (tFa_mk (a (sl tU QA qc q.a) (by repeat constructor))) hk) ?_
    have hlen : (l.take k ++ q :: l.drop k).length = l.length + 1 := by simp; omega
    refine go_ol_close (l.take k ++ q :: l.drop k) (by repeat constructor) (by repeat constructor) hins.2.1 (by rw [hlen]; exact hins.1) (by omega) (by assumption) ?_
    rw [show l.length + 1 = (l.take k ++ q :: l.drop k).length from hlen.symm]
    refine go_nil ?_
    refine go_env [(0, _)] ⟨rfl, trivial⟩ ?_
    refine go_seq ?_
    refine go_region rfl ?_
    refine go_pure0 Tk rfl rfl rfl ?_
    refine go_pure0 Tk rfl rfl rfl ?_
    refine go_nil ?_
    refine go_env [(6, _)] ⟨rfl, trivial⟩ ?_
    refine go_ret ⟨rfl, rfl⟩ _ _ (res1 (by rfl) (.tmp rfl)) ⟨_, c, rfl, rfl, rfl⟩ (by repeat constructor) (by repeat constructor)

end Go.Proofs.YtkhddfknpegpmaaGreat.SL

/- Contracts of functions of the program (Relput): what each call comes to, for the laws' proofs. -/
set_option linter.unusedVariables false
set_option linter.unusedSimpArgs false
namespace Go.Proofs.YtkhddfknpegpmaaGreat.SL
open Go 

set_option maxHeartbeats 2000000 in
set_option maxRecDepth 20000 in
theorem relPut (b : Nat) (l : List Fa) (q : Fa) (QA : Option Addr) (qc : Nat) (hr : rises l) (hn : l.length ≤ 50000000) (hm : q.a.length ≤ 100000) :
    Spec Tryz.prog 32 #[.pointer (some ⟨b, 0, none⟩), .agg #[.int .u32 q.p, .slice QA q.a.length qc]] [sl tU QA qc q.a] [relO b l] (fun v Ps' Os' => v = .bool (!decide (q ∈ l)) ∧ Ps' = [] ∧ Os' = [relO b (fput l q)]) := by
 refine spec_of (fn := Tryz.f32) (args := [.pointer (some ⟨b, 0, none⟩), .agg #[.int .u32 q.p, .slice QA q.a.length qc]]) 30 Tryz.func32 rfl (by kernel_rfl) Tryz.ntmps32 (Nat.le_of_ble_eq_true rfl) (fun w0 hp0 hf0 => ?_)
 refine go_seq ?_
 refine go_region rfl ?_
 refine go_box Tk rfl rfl rfl rfl (by rfl) rfl rfl (fun h => nomatch h) ?_
 intro b1
 refine go_pure0 Tk rfl rfl rfl ?_
 refine go_nil ?_
 refine go_env [(0, _), (3, _)] ⟨rfl, rfl, trivial⟩ ?_
 refine go_seq ?_
 refine go_region rfl ?_
 refine go_pure0 Tk rfl rfl rfl ?_
 refine go_val0 rfl (ldv Tk rfl rfl rfl) rfl ?_
 refine go_call (relPlace b l q QA qc hr hn) rfl rfl (by rfl) rfl (by repeat constructor) (by repeat constructor) (fun h => nomatch h) ?_
 rintro _ _ _ ⟨rfl, rfl, rfl⟩
 refine go_pure0 Tk rfl rfl rfl ?_
 refine go_pure0 Tk rfl rfl rfl ?_
 refine go_pure0 Tk rfl rfl rfl ?_
 refine go_pure0 Tk rfl rfl rfl ?_
 refine go_pure0 Tk rfl rfl rfl ?_
 refine go_nil ?_
 refine go_env [(0, _), (3, _), (5, _), (6, _)] ⟨rfl, rfl, rfl, rfl, trivial⟩ ?_
 refine go_seq ?_
 refine go_seq ?_
 refine go_region rfl ?_
 refine go_pure0 Tk rfl rfl rfl ?_
 refine go_pure0 Tk rfl rfl rfl ?_
 refine go_known 14 rfl ?_ ?_
 ·intro g1
  (try simp only [decide_eq_true_eq, decide_eq_false_iff_not, Bool.not_eq_true', Bool.not_eq_false', Bool.not_eq_eq_eq_not, Bool.not_true, Bool.not_false, Int.not_lt, Int.not_le, beq_iff_eq, beq_eq_false_iff_ne, ne_eq] at g1)
  refine go_skip0 rfl rfl ?_
  refine go_skip0 rfl rfl ?_
  refine go_pure0 Tk rfl rfl rfl ?_
  refine go_nil ?_
  refine go_env [(0, _), (3, _), (5, _), (17, _)] ⟨rfl, rfl, rfl, rfl, trivial⟩ ?_
  refine go_cond_t rfl ?_
  refine go_seq ?_
  refine go_region rfl ?_
  refine go_pure0 Tk rfl rfl rfl ?_
  refine go_nil ?_
  refine go_env [(4, _)] ⟨rfl, trivial⟩ ?_
  refine go_ret ⟨rfl, rfl⟩ _ _ (res1 (by rfl) (.tmp rfl)) ⟨by rw [decide_eq_true (by simpa using g1)]; rfl, rfl, by rw [fput_yes (by simpa using g1)]⟩ (by repeat constructor) (by repeat constructor)
 ·intro g1
  (try simp only [decide_eq_true_eq, decide_eq_false_iff_not, Bool.not_eq_true', Bool.not_eq_false', Bool.not_eq_eq_eq_not, Bool.not_true, Bool.not_false, Int.not_lt, Int.not_le, beq_iff_eq, beq_eq_false_iff_ne, ne_eq] at g1)
  refine go_pure0 Tk rfl rfl rfl ?_
  refine go_pure0 Tk rfl rfl rfl ?_
  refine go_pure0 Tk rfl rfl rfl ?_
  refine go_nil ?_
  refine go_env [(0, _), (3, _), (5, _), (17, _)] ⟨rfl, rfl, rfl, rfl, trivial⟩ ?_
  refine go_cond_f rfl ?_
  refine go_skip ?_
  refine go_seq ?_
  refine go_rel (b := b) (by repeat constructor) (fun A1 c1 => ?_)
  refine go_draw'  [4, 6] (SL.pre [(1, 0), (1, 1), (1, 2), (1, 3), (1, 5), (2, 4), (2, 6), (0, 7), (0, 8), (0, 9), (1, 10), (1, 11), (0, 12)] .nil) mixed rfl (by kernel_rfl) ?_
  refine go_pure1 Tk rfl rfl rfl ?_
  refine go_pure1 Tk rfl rfl rfl ?_
  refine go_pure1 Tk rfl rfl rfl ?_
  refine go_pure1 Tk rfl rfl rfl ?_
  refine go_pure1 Tk rfl rfl rfl ?_
  refine go_val2a rfl (ldv Tk rfl rfl rfl) rfl ?_
  refine go_val2a rfl (ldv Tk rfl rfl rfl) rfl ?_
  refine go_call (relCopied q QA qc hm) rfl rfl (by rfl) rfl (by repeat constructor) (by repeat constructor) (fun _ v Ps' Os' hq => by obtain ⟨A', c', rfl, rfl, rfl⟩ := hq; exact satS (by repeat constructor) (by repeat constructor)) ?_
  rintro _ _ _ ⟨A', c', rfl, rfl, rfl⟩
  refine go_freeze_ol (A := A') (xs := q.a) (by repeat constructor) ?_
  refine go_bslice Tk rfl rfl rfl rfl rfl rfl rfl rfl (fun _ _ => satA) ?_
  intro bv
  refine go_call (insertFa A1 c1 l (at_ l q) bv q A' c' (at_le l q) hn) rfl rfl (by rfl) rfl (by repeat constructor) (by repeat constructor) (fun h => nomatch h) ?_
  rintro _ _ _ ⟨A2, c2, rfl, rfl, rfl⟩
  refine go_pure1 Tk rfl rfl rfl ?_
  refine go_pure1 Tk rfl rfl rfl ?_
  refine go_store Tk rfl rfl rfl rfl rfl rfl (by repeat constructor) rfl rfl (by rfl) (fun h => nomatch h) ?_
  refine go_nil ?_
  rw [← fput_no (by simpa using g1)]
  refine go_fold [pt b 97 [.slice A2 (fput l q).length c2], ol tFa 52 A2 c2 (fput l q)] (relO b (fput l q)) (by repeat constructor) (fun _ _ q => relO_mk q) ?_
  refine go_env [] trivial ?_
  refine go_seq ?_
  refine go_region rfl ?_
  refine go_pure0 Tk rfl rfl rfl ?_
  refine go_nil ?_
  refine go_env [(4, _)] ⟨rfl, trivial⟩ ?_
  refine go_ret ⟨rfl, rfl⟩ _ _ (res1 (by rfl) (.tmp rfl)) ⟨by rw [decide_eq_false (by simpa using g1)]; rfl, rfl, rfl⟩ (by repeat constructor) (by repeat constructor)

set_option maxHeartbeats 2000000 in
set_option maxRecDepth 20000 in
theorem relPut0 (q : Fa) (QA : Option Addr) (qc : Nat) :
    Spec Tryz.prog 32 #[.pointer none, .agg #[.int .u32 q.p, .slice QA q.a.length qc]] [] [] (fun v Ps' Os' => v = .bool false ∧ Ps' = [] ∧ Os' = []) := by
 refine spec_of (fn := Tryz.f32) (args := [.pointer none, .agg #[.int .u32 q.p, .slice QA q.a.length qc]]) 30 Tryz.func32 rfl (by kernel_rfl) Tryz.ntmps32 (Nat.le_of_ble_eq_true rfl) (fun w0 hp0 hf0 => ?_)
 refine go_seq ?_
 refine go_region rfl ?_
 refine go_box Tk rfl rfl rfl rfl (by rfl) rfl rfl (fun h => nomatch h) ?_
 intro b1
 refine go_pure0 Tk rfl rfl rfl ?_
 refine go_nil ?_
 refine go_env [(0, _), (3, _)] ⟨rfl, rfl, trivial⟩ ?_
 refine go_seq ?_
 refine go_region rfl ?_
 refine go_pure0 Tk rfl rfl rfl ?_
 refine go_val0 rfl (ldv Tk rfl rfl rfl) rfl ?_
 refine go_call (relPlace0 q QA qc) rfl rfl (by rfl) rfl (by repeat constructor) (by repeat constructor) (fun h => nomatch h) ?_
 rintro _ _ _ ⟨rfl, rfl, rfl⟩
 refine go_pure0 Tk rfl rfl rfl ?_
 refine go_pure0 Tk rfl rfl rfl ?_
 refine go_pure0 Tk rfl rfl rfl ?_
 refine go_pure0 Tk rfl rfl rfl ?_
 refine go_pure0 Tk rfl rfl rfl ?_
 refine go_nil ?_
 refine go_env [(0, _), (3, _), (5, _), (6, _)] ⟨rfl, rfl, rfl, rfl, trivial⟩ ?_
 refine go_seq ?_
 refine go_seq ?_
 refine go_region rfl ?_
 refine go_pure0 Tk rfl rfl rfl ?_
 refine go_pure0 Tk rfl rfl rfl ?_
 refine go_pure0 Tk rfl rfl rfl ?_
 refine go_pure0 Tk rfl rfl rfl ?_
 refine go_pure0 Tk rfl rfl rfl ?_
 refine go_nil ?_
 refine go_env [(0, _), (3, _), (5, _), (17, _)] ⟨rfl, rfl, rfl, rfl, trivial⟩ ?_
 refine go_cond_t rfl ?_
 refine go_seq ?_
 refine go_region rfl ?_
 refine go_pure0 Tk rfl rfl rfl ?_
 refine go_nil ?_
 refine go_env [(4, _)] ⟨rfl, trivial⟩ ?_
 refine go_ret ⟨rfl, rfl⟩ _ _ (res1 (by rfl) (.tmp rfl)) ⟨rfl, rfl, rfl⟩ (by repeat constructor) (by repeat constructor)

end Go.Proofs.YtkhddfknpegpmaaGreat.SL

/- Contracts of functions of the program (Relp): what each call comes to, for the laws' proofs. -/
set_option linter.unusedVariables false
set_option linter.unusedSimpArgs false
namespace Go.Proofs.YtkhddfknpegpmaaGreat.SL
open Go 

/-- A set of facts that is read. -/
def relP (b : Nat) (l : List Fa) : PA := ⟨fun h => ∃ (A : Option Addr) (c : Nat), (cl b 0 [.slice A l.length c]).p h ∧ Sl tFa h A c l, fun hl ⟨A, c, h1, h2⟩ => ⟨A, c, PA.up _ hl h1, h2.up hl⟩⟩
theorem go_relP {C : Ctx} {k : List It} {E : Env} {Ps : List PA} {Os : List OA} {b : Nat} {l : List Fa} (h : relP b l ∈ Ps) (g : ∀ (A : Option Addr) (c : Nat), Go C k E (cl b 0 [.slice A l.length c] :: sl tFa A c l :: Ps) Os) : Go C k E Ps Os := fun a w hp ho hf hs hb => by
  obtain ⟨A, c, h1, h2⟩ := hs.ps _ h
  exact g A c a w hp ho hf ((hs.addp (q := sl tFa A c l) h2).addp h1) hb
theorem pt_cl {b ty : Nat} {cs : List Value} {hp h H : Heap} (hl : h.le H) (q : (pt b ty cs).p hp h) : (cl b 0 cs).p H := fun j v hj => by
  have q' : h b = some (.cells cs.toArray ty (0, 0)) := q
  refine cellH_le hl ?_
  simp only [cellH, q', Nat.zero_add]
  simpa using hj
theorem lend_rel {b : Nat} {l : List Fa} : ∀ (hp h1 H : Heap), hp.le H → h1.le H → (relO b l).p hp h1 → (relP b l).p H := fun hp h1 H l1 l2 ⟨A, c, q⟩ => by
  obtain ⟨g1, g2, x1, x2, _, d1, g3, g4, y1, _, _, ⟨cs, r, s⟩, _⟩ := (show Sep hp [pt b 97 [.slice A (l).length c], ol tFa 52 A c (l)] h1 from q)
  exact ⟨A, c, pt_cl (x1.tr l2) d1, sl_of_row r (y1.tr (x2.tr l2)) (s.up l1)⟩
theorem go_freeze_rel {C : Ctx} {k : List It} {E : Env} {Ps : List PA} {Os rr : List OA} {b : Nat} {l : List Fa} (h : Rem (relO b l) Os rr) (g : Go C k E (relP b l :: Ps) rr) : Go C k E Ps Os := go_freeze _ (relP b l) h lend_rel g
/-- A contract that only reads a set, where the set is one's own. -/
theorem Spec.own {P : Program} {f : FuncId} {args : Array Value} {b : Nat} {l : List Fa} {Ps : List PA} {Q : Value → Prop} (s : Spec P f args (relP b l :: Ps) [] (fun v Ps' Os' => Q v ∧ Ps' = [] ∧ Os' = [])) : Spec P f args Ps [relO b l] (fun v Ps' Os' => Q v ∧ Ps' = [] ∧ Os' = [relO b l]) :=
  (s.lend (relO b l) lend_rel (fun v P' O' h => ⟨h.2.1, by rw [h.2.2]; intro B hB; cases hB⟩)).imp fun v P' O' ⟨O2, ⟨h1, _, h3⟩, h4, h5⟩ => ⟨h1, h4, by rw [h5, h3]⟩

set_option maxHeartbeats 2000000 in
set_option maxRecDepth 20000 in
theorem binSearchP (A : Option Addr) (c : Nat) (l : List Fa) (q : Fa) (QA : Option Addr) (qc : Nat) (hr : rises l) (hn : l.length ≤ 50000000) :
    Spec Tryz.prog 67 #[.slice A l.length c, .agg #[.int .u32 q.p, .slice QA q.a.length qc], .func (.func 68) #[] #[]] [sl tFa A c l, sl tU QA qc q.a] [] (fun v Ps' Os' => v = .tuple #[.int .i64 (at_ l q : Int), .bool (decide (q ∈ l))] ∧ Ps' = [] ∧ Os' = []) := by
 refine spec_of (fn := Tryz.f67) (args := [.slice A l.length c, .agg #[.int .u32 q.p, .slice QA q.a.length qc], .func (.func 68) #[] #[]]) 49 Tryz.func67 rfl (by kernel_rfl) Tryz.ntmps67 (Nat.le_of_ble_eq_true rfl) (fun w0 hp0 hf0 => ?_)
 refine go_seq ?_
 refine go_region rfl ?_
 refine go_box Tk rfl rfl rfl rfl (by rfl) rfl rfl (fun h => nomatch h) ?_
 intro b1
 refine go_pure0 Tk rfl rfl rfl ?_
 refine go_pure0 Tk rfl rfl rfl ?_
 refine go_nil ?_
 refine go_env [(0, _), (2, _), (4, _)] ⟨rfl, rfl, rfl, trivial⟩ ?_
 refine go_seq ?_
 refine go_region rfl ?_
 refine go_pure0 Tk rfl rfl rfl ?_
 refine go_pure0 Tk rfl rfl rfl ?_
 refine go_pure0 Tk rfl rfl rfl ?_
 refine go_nil ?_
 refine go_env [(0, _), (2, _), (4, _), (8, _)] ⟨rfl, rfl, rfl, rfl, trivial⟩ ?_
 refine go_seq ?_
 refine go_region rfl ?_
 refine go_pure0 Tk rfl rfl rfl ?_
 refine go_pure0 Tk rfl rfl rfl ?_
 refine go_pure0 Tk rfl rfl rfl ?_
 refine go_nil ?_
 refine go_env [(0, _), (2, _), (4, _), (8, _), (9, _), (10, _)] ⟨rfl, rfl, rfl, rfl, rfl, rfl, trivial⟩ ?_
 refine go_seq ?_
 refine go_block ?_
 refine go_loop' (X := Nat × Nat) (fun x => [(9, .int .i64 (x.1 : Int)), (10, .int .i64 (x.2 : Int))]) [(0, _), (2, _), (4, _), (8, _)] (fun _ => []) (fun x => x.1 ≤ x.2 ∧ x.2 ≤ l.length ∧ (∀ y ∈ l.take x.1, cF y q < 0) ∧ ∀ y ∈ l.drop x.2, ¬ cF y q < 0) (fun x => x.2 - x.1) ((0, l.length)) ⟨rfl, rfl, rfl, rfl, rfl, rfl, trivial⟩ (by repeat constructor) ⟨by omega, by omega, by simp, by simp⟩ ?_
 intro ⟨i, j⟩ ⟨hij, hj, hlo, hhi⟩
 simp only at hij hj hlo hhi ⊢
 refine go_seq ?_
 refine go_seq ?_
 refine go_region rfl ?_
 refine go_pure0 Tk rfl rfl rfl ?_
 refine go_pure0 Tk rfl rfl rfl ?_
 refine go_pure0 Tk rfl rfl rfl ?_
 refine go_nil ?_
 refine go_env [(0, _), (2, _), (4, _), (8, _), (9, _), (10, _), (17, _)] ⟨rfl, rfl, rfl, rfl, rfl, rfl, rfl, trivial⟩ ?_
 refine go_condD rfl ?_ ?_
 ·intro c1
  refine go_skip ?_
  refine go_block ?_
  refine go_seq ?_
  refine go_region rfl ?_
  refine go_pure0 Tk rfl rfl rfl ?_
  refine go_pure0 Tk rfl rfl rfl ?_
  refine go_pure0 Tk rfl rfl rfl ?_
  refine go_i64 20 rfl (by omega) (by omega) ?_
  refine go_pure0 Tk rfl rfl rfl ?_
  refine go_re 21 (.int .u64 ((i + j : Nat) : Int)) (by show some (Value.int _ _) = _; rw [wrap_u64 (by omega)]; rfl) ?_
  refine go_pure0 Tk rfl rfl rfl ?_
  refine go_re 22 (.int .u64 (((i + j) / 2 : Nat) : Int)) (by show some (Value.int _ _) = _; rw [← half]) ?_
  refine go_pure0 Tk rfl rfl rfl ?_
  refine go_i64 23 rfl (by omega) (by omega) ?_
  obtain ⟨h, hh⟩ : ∃ h, h = (i + j) / 2 := ⟨_, rfl⟩
  rw [← hh]
  have hih : i ≤ h ∧ h < j := by omega
  refine go_pure0 Tk rfl rfl rfl ?_
  refine go_nil ?_
  refine go_env [(0, _), (2, _), (4, _), (8, _), (9, _), (10, _), (11, _)] ⟨rfl, rfl, rfl, rfl, rfl, rfl, rfl, trivial⟩ ?_
  refine go_seq ?_
  refine go_elem_fa (xs := l) (by repeat constructor) (h) (List.getElem?_eq_getElem (by omega)) (fun b0 o0 A0 c0 hA => ?_); cases hA
  refine go_draw'  [4, 5] (SL.pre [(1, 0), (1, 1), (1, 2), (1, 3), (2, 4), (2, 5), (0, 6), (1, 7)] .nil) mixed rfl (by kernel_rfl) ?_
  refine go_pure1 Tk rfl rfl rfl ?_
  refine go_pure1 Tk rfl rfl rfl ?_
  refine go_pure1 Tk rfl rfl rfl ?_
  refine go_val1 rfl (idx_val Tk rfl rfl rfl rfl rfl (by omega)) rfl ?_
  refine go_val2a rfl (ldv Tk rfl rfl rfl) rfl ?_
  refine go_val2a rfl (ldv Tk rfl rfl rfl) rfl ?_
  refine go_call (atomsCompare _ _ _ _ _ _ _ _) rfl rfl (by rfl) rfl (by repeat constructor) (by repeat constructor) (fun h => nomatch h) ?_
  rintro _ _ _ ⟨rfl, rfl, rfl⟩
  refine go_pure1 Tk rfl rfl rfl ?_
  refine go_nil ?_
  refine go_env [(0, _), (2, _), (4, _), (8, _), (9, _), (10, _), (11, _), (31, _)] ⟨rfl, rfl, rfl, rfl, rfl, rfl, rfl, rfl, trivial⟩ ?_
  refine go_condD rfl ?_ ?_
  ·intro c2
   refine go_region rfl ?_
   refine go_pure0 Tk rfl rfl rfl ?_
   refine go_pure0 Tk rfl rfl rfl ?_
   refine go_i64 33 rfl (by omega) (by omega) ?_
   refine go_pure0 Tk rfl rfl rfl ?_
   refine go_nil ?_
   refine go_env [(0, _), (2, _), (4, _), (8, _), (9, _), (10, _)] ⟨rfl, rfl, rfl, rfl, rfl, rfl, trivial⟩ ?_
   refine go_blk ?_
   refine go_back (h + 1, j) ⟨rfl, rfl, rfl, rfl, rfl, rfl, trivial⟩ (by repeat constructor) (by repeat constructor) ⟨by show h + 1 ≤ j; omega, hj, rises_take hr (by omega) c2, hhi⟩ (by show j - (h + 1) < j - i; omega)
  ·intro c2
   refine go_region rfl ?_
   refine go_pure0 Tk rfl rfl rfl ?_
   refine go_pure0 Tk rfl rfl rfl ?_
   refine go_nil ?_
   refine go_env [(0, _), (2, _), (4, _), (8, _), (9, _), (10, _)] ⟨rfl, rfl, rfl, rfl, rfl, rfl, trivial⟩ ?_
   refine go_blk ?_
   refine go_back (i, h) ⟨rfl, rfl, rfl, rfl, rfl, rfl, trivial⟩ (by repeat constructor) (by repeat constructor) ⟨by show i ≤ h; omega, by show h ≤ _; omega, hlo, rises_drop hr (by omega) c2⟩ (by show h - i < j - i; omega)
 ·intro c1
  refine go_exit rfl ?_
  refine go_seq ?_
  by_cases hin : i < l.length
  ·skip
   refine go_elem_fa (xs := l) (by repeat constructor) (i) (List.getElem?_eq_getElem (by omega)) (fun b0 o0 A0 c0 hA => ?_); cases hA
   refine go_draw'  [9, 10] (SL.pre [(1, 0), (1, 1), (1, 2), (1, 3), (1, 4), (1, 5), (1, 6), (1, 7), (1, 8), (2, 9), (2, 10), (0, 11), (1, 12), (1, 13), (1, 14), (1, 15)] .nil) mixed rfl (by kernel_rfl) ?_
   refine go_pure1 Tk rfl rfl rfl ?_
   refine go_pure1 Tk rfl rfl rfl ?_
   refine go_pure1 Tk rfl rfl rfl ?_
   refine go_pure1 Tk rfl rfl rfl ?_
   refine go_re 38 (.bool true) (by show some (Value.bool (decide _)) = _; rw [decide_eq_true (by omega)]) ?_
   refine go_pure1 Tk rfl rfl rfl ?_
   refine go_pure1 Tk rfl rfl rfl ?_
   refine go_pure1 Tk rfl rfl rfl ?_
   refine go_pure1 Tk rfl rfl rfl ?_
   refine go_val1 rfl (idx_val Tk rfl rfl rfl rfl rfl (by omega)) rfl ?_
   refine go_val2a rfl (ldv Tk rfl rfl rfl) rfl ?_
   refine go_val2a rfl (ldv Tk rfl rfl rfl) rfl ?_
   refine go_call (atomsCompare _ _ _ _ _ _ _ _) rfl rfl (by rfl) rfl (by repeat constructor) (by repeat constructor) (fun h => nomatch h) ?_
   rintro _ _ _ ⟨rfl, rfl, rfl⟩
   refine go_pure1 Tk rfl rfl rfl ?_
   refine go_pure1 Tk rfl rfl rfl ?_
   refine go_pure1 Tk rfl rfl rfl ?_
   refine go_pure1 Tk rfl rfl rfl ?_
   refine go_nil ?_
   refine go_env [(6, _), (7, _)] ⟨rfl, rfl, trivial⟩ ?_
   refine go_ret ⟨rfl, rfl⟩ _ _ (res2 (by rfl) (.tmp rfl) (.tmp rfl)) ⟨by rw [bin_yes hr hin (by omega) hlo (by have := hhi; rwa [show j = i from by omega] at this)], rfl, rfl⟩ (by repeat constructor) (by repeat constructor)
  ·skip
   refine go_draw'  [9, 10] (SL.pre [(1, 0), (1, 1), (1, 2), (1, 3), (1, 4), (1, 5), (1, 6), (1, 7), (1, 8), (2, 9), (2, 10), (0, 11), (1, 12), (1, 13), (1, 14), (1, 15)] .nil) mixed rfl (by kernel_rfl) ?_
   refine go_pure1 Tk rfl rfl rfl ?_
   refine go_pure1 Tk rfl rfl rfl ?_
   refine go_pure1 Tk rfl rfl rfl ?_
   refine go_pure1 Tk rfl rfl rfl ?_
   refine go_re 38 (.bool false) (by show some (Value.bool (decide _)) = _; rw [decide_eq_false (by omega)]) ?_
   refine go_pure1 Tk rfl rfl rfl ?_
   refine go_skip1 rfl rfl ?_
   refine go_skip1 rfl rfl ?_
   refine go_skip1 rfl rfl ?_
   refine go_skip1 rfl rfl ?_
   refine go_skip2 rfl (by repeat constructor) (by repeat constructor) rfl ?_
   refine go_skip2 rfl (by repeat constructor) (by repeat constructor) rfl ?_
   refine go_skip0 rfl rfl ?_
   refine go_skip1 rfl rfl ?_
   refine go_pure1 Tk rfl rfl rfl ?_
   refine go_pure1 Tk rfl rfl rfl ?_
   refine go_pure1 Tk rfl rfl rfl ?_
   refine go_nil ?_
   refine go_env [(6, _), (7, _)] ⟨rfl, rfl, trivial⟩ ?_
   refine go_ret ⟨rfl, rfl⟩ _ _ (res2 (by rfl) (.tmp rfl) (.tmp rfl)) ⟨by rw [bin_no hr (by omega) hlo], rfl, rfl⟩ (by repeat constructor) (by repeat constructor)

set_option maxHeartbeats 2000000 in
set_option maxRecDepth 20000 in
theorem relPlaceP (b : Nat) (l : List Fa) (q : Fa) (QA : Option Addr) (qc : Nat) (hr : rises l) (hn : l.length ≤ 50000000) :
    Spec Tryz.prog 53 #[.pointer (some ⟨b, 0, none⟩), .agg #[.int .u32 q.p, .slice QA q.a.length qc]] [relP b l, sl tU QA qc q.a] [] (fun v Ps' Os' => v = .tuple #[.int .i64 (at_ l q : Int), .bool (decide (q ∈ l))] ∧ Ps' = [] ∧ Os' = []) := by
 refine spec_of (fn := Tryz.f53) (args := [.pointer (some ⟨b, 0, none⟩), .agg #[.int .u32 q.p, .slice QA q.a.length qc]]) 16 Tryz.func53 rfl (by kernel_rfl) Tryz.ntmps53 (Nat.le_of_ble_eq_true rfl) (fun w0 hp0 hf0 => ?_)
 refine go_seq ?_
 refine go_region rfl ?_
 refine go_box Tk rfl rfl rfl rfl (by rfl) rfl rfl (fun h => nomatch h) ?_
 intro b1
 refine go_pure0 Tk rfl rfl rfl ?_
 refine go_pure0 Tk rfl rfl rfl ?_
 refine go_nil ?_
 refine go_env [(0, _), (3, _)] ⟨rfl, rfl, trivial⟩ ?_
 refine go_seq ?_
 refine go_seq ?_
 refine go_region rfl ?_
 refine go_pure0 Tk rfl rfl rfl ?_
 refine go_pure0 Tk rfl rfl rfl ?_
 refine go_nil ?_
 refine go_env [(0, _), (3, _), (7, _)] ⟨rfl, rfl, rfl, trivial⟩ ?_
 refine go_cond_f rfl ?_
 refine go_skip ?_
 refine go_seq ?_
 refine go_relP (b := b) (by repeat constructor) (fun A1 c1 => ?_)
 refine go_draw'  [3, 4] (SL.pre [(1, 0), (1, 1), (1, 2), (2, 3), (2, 4), (0, 5), (1, 6), (1, 7), (1, 8), (1, 9)] .nil) mixed rfl (by kernel_rfl) ?_
 refine go_pure1 Tk rfl rfl rfl ?_
 refine go_pure1 Tk rfl rfl rfl ?_
 refine go_pure1 Tk rfl rfl rfl ?_
 refine go_val2a rfl (ldv Tk rfl rfl rfl) rfl ?_
 refine go_val2a rfl (ldv Tk rfl rfl rfl) rfl ?_
 refine go_call (binSearchP A1 c1 l q QA qc hr hn) rfl rfl (by rfl) rfl (by repeat constructor) (by repeat constructor) (fun h => nomatch h) ?_
 rintro _ _ _ ⟨rfl, rfl, rfl⟩
 refine go_pure1 Tk rfl rfl rfl ?_
 refine go_pure1 Tk rfl rfl rfl ?_
 refine go_pure1 Tk rfl rfl rfl ?_
 refine go_pure1 Tk rfl rfl rfl ?_
 refine go_nil ?_
 refine go_env [(4, _), (5, _)] ⟨rfl, rfl, trivial⟩ ?_
 refine go_ret ⟨rfl, rfl⟩ _ _ (res2 (by rfl) (.tmp rfl) (.tmp rfl)) ⟨rfl, rfl, rfl⟩ (by repeat constructor) (by repeat constructor)

set_option maxHeartbeats 2000000 in
set_option maxRecDepth 20000 in
theorem relHasP (b : Nat) (l : List Fa) (q : Fa) (QA : Option Addr) (qc : Nat) (hr : rises l) (hn : l.length ≤ 50000000) :
    Spec Tryz.prog 51 #[.pointer (some ⟨b, 0, none⟩), .agg #[.int .u32 q.p, .slice QA q.a.length qc]] [relP b l, sl tU QA qc q.a] [] (fun v Ps' Os' => v = .bool (decide (q ∈ l)) ∧ Ps' = [] ∧ Os' = []) := by
 refine spec_of (fn := Tryz.f51) (args := [.pointer (some ⟨b, 0, none⟩), .agg #[.int .u32 q.p, .slice QA q.a.length qc]]) 14 Tryz.func51 rfl (by kernel_rfl) Tryz.ntmps51 (Nat.le_of_ble_eq_true rfl) (fun w0 hp0 hf0 => ?_)
 refine go_seq ?_
 refine go_region rfl ?_
 refine go_box Tk rfl rfl rfl rfl (by rfl) rfl rfl (fun h => nomatch h) ?_
 intro b1
 refine go_pure0 Tk rfl rfl rfl ?_
 refine go_nil ?_
 refine go_env [(0, _), (3, _)] ⟨rfl, rfl, trivial⟩ ?_
 refine go_seq ?_
 refine go_region rfl ?_
 refine go_pure0 Tk rfl rfl rfl ?_
 refine go_val0 rfl (ldv Tk rfl rfl rfl) rfl ?_
 refine go_call (relPlaceP b l q QA qc hr hn) rfl rfl (by rfl) rfl (by repeat constructor) (by repeat constructor) (fun h => nomatch h) ?_
 rintro _ _ _ ⟨rfl, rfl, rfl⟩
 refine go_pure0 Tk rfl rfl rfl ?_
 refine go_pure0 Tk rfl rfl rfl ?_
 refine go_pure0 Tk rfl rfl rfl ?_
 refine go_pure0 Tk rfl rfl rfl ?_
 refine go_pure0 Tk rfl rfl rfl ?_
 refine go_nil ?_
 refine go_env [(6, _)] ⟨rfl, trivial⟩ ?_
 refine go_seq ?_
 refine go_region rfl ?_
 refine go_pure0 Tk rfl rfl rfl ?_
 refine go_pure0 Tk rfl rfl rfl ?_
 refine go_nil ?_
 refine go_env [(4, _)] ⟨rfl, trivial⟩ ?_
 refine go_ret ⟨rfl, rfl⟩ _ _ (res1 (by rfl) (.tmp rfl)) ⟨rfl, rfl, rfl⟩ (by repeat constructor) (by repeat constructor)

set_option maxHeartbeats 2000000 in
set_option maxRecDepth 20000 in
theorem relLenP (b : Nat) (l : List Fa) :
    Spec Tryz.prog 37 #[.pointer (some ⟨b, 0, none⟩)] [relP b l] [] (fun v Ps' Os' => v = .int .i64 (l.length : Int) ∧ Ps' = [] ∧ Os' = []) := by
 refine spec_of (fn := Tryz.f37) (args := [.pointer (some ⟨b, 0, none⟩)]) 10 Tryz.func37 rfl (by kernel_rfl) Tryz.ntmps37 (Nat.le_of_ble_eq_true rfl) (fun w0 hp0 hf0 => ?_)
 refine go_seq ?_
 refine go_region rfl ?_
 refine go_pure0 Tk rfl rfl rfl ?_
 refine go_nil ?_
 refine go_env [(0, _)] ⟨rfl, trivial⟩ ?_
 refine go_seq ?_
 refine go_seq ?_
 refine go_region rfl ?_
 refine go_pure0 Tk rfl rfl rfl ?_
 refine go_pure0 Tk rfl rfl rfl ?_
 refine go_nil ?_
 refine go_env [(0, _), (4, _)] ⟨rfl, rfl, trivial⟩ ?_
 refine go_cond_f rfl ?_
 refine go_skip ?_
 refine go_seq ?_
 refine go_relP (b := b) (by repeat constructor) (fun A1 c1 => ?_)
 refine go_region rfl ?_
 refine go_pure0 Tk rfl rfl rfl ?_
 refine go_pure0 Tk rfl rfl rfl ?_
 refine go_pure0 Tk rfl rfl rfl ?_
 refine go_val0 rfl (ldv Tk rfl rfl rfl) rfl ?_
 refine go_pure0 Tk rfl rfl rfl ?_
 refine go_pure0 Tk rfl rfl rfl ?_
 refine go_nil ?_
 refine go_env [(2, _)] ⟨rfl, trivial⟩ ?_
 refine go_ret ⟨rfl, rfl⟩ _ _ (res1 (by rfl) (.tmp rfl)) ⟨rfl, rfl, rfl⟩ (by repeat constructor) (by repeat constructor)

/-- A set that is read, or none. -/
def relN (p : Option Addr) (l : List Fa) : PA := ⟨fun h => (p = none ∧ l = []) ∨ ∃ b, p = some ⟨b, 0, none⟩ ∧ (relP b l).p h, fun hl q => q.imp id fun ⟨b, e, r⟩ => ⟨b, e, (relP b l).up hl r⟩⟩
theorem relN_nil {h : Heap} : (relN none []).p h := .inl ⟨rfl, rfl⟩
theorem relN_some {b : Nat} {l : List Fa} {h : Heap} (q : (relP b l).p h) : (relN (some ⟨b, 0, none⟩) l).p h := .inr ⟨b, rfl, q⟩
theorem go_relN {C : Ctx} {k : List It} {E : Env} {Ps : List PA} {Os : List OA} {p : Option Addr} {l : List Fa} (h : relN p l ∈ Ps) (hp : 0 < l.length) (g : ∀ b, p = some ⟨b, 0, none⟩ → Go C k E (relP b l :: Ps) Os) : Go C k E Ps Os := fun a w hp' ho hf hs hb => by
  rcases hs.ps _ h with ⟨_, e⟩ | ⟨b, e, q⟩
  · subst e; simp at hp
  · exact g b e a w hp' ho hf (hs.addp q) hb
theorem Spec.onN {P : Program} {f : FuncId} {args : Option Addr → Array Value} {p : Option Addr} {l : List Fa} {Ps : List PA} {Os : List OA} {Q : Value → List PA → List OA → Prop}
    (s1 : l = [] → Spec P f (args none) Ps Os Q) (s2 : ∀ b, Spec P f (args (some ⟨b, 0, none⟩)) (relP b l :: Ps) Os Q) : Spec P f (args p) (relN p l :: Ps) Os Q :=
  ⟨(s2 0).fn, fun w hp ho hf hs a b c => by
    rcases hs.ps _ (.head _) with ⟨e1, e2⟩ | ⟨b', e, q⟩
    · subst e1; exact (s1 e2).calls w hp ho hf ⟨hs.inp, hs.ino, hs.dj, fun p hp => hs.ps p (.tail _ hp), hs.os⟩ a b c
    · subst e; exact (s2 b').calls w hp ho hf ⟨hs.inp, hs.ino, hs.dj, forall_cons q fun p hp => hs.ps p (.tail _ hp), hs.os⟩ a b c⟩

set_option maxHeartbeats 2000000 in
set_option maxRecDepth 20000 in
theorem relHas0P (q : Fa) (QA : Option Addr) (qc : Nat) :
    Spec Tryz.prog 51 #[.pointer none, .agg #[.int .u32 q.p, .slice QA q.a.length qc]] [sl tU QA qc q.a] [] (fun v Ps' Os' => v = .bool false ∧ Ps' = [] ∧ Os' = []) := by
 refine spec_of (fn := Tryz.f51) (args := [.pointer none, .agg #[.int .u32 q.p, .slice QA q.a.length qc]]) 14 Tryz.func51 rfl (by kernel_rfl) Tryz.ntmps51 (Nat.le_of_ble_eq_true rfl) (fun w0 hp0 hf0 => ?_)
 refine go_seq ?_
 refine go_region rfl ?_
 refine go_box Tk rfl rfl rfl rfl (by rfl) rfl rfl (fun h => nomatch h) ?_
 intro b1
 refine go_pure0 Tk rfl rfl rfl ?_
 refine go_nil ?_
 refine go_env [(0, _), (3, _)] ⟨rfl, rfl, trivial⟩ ?_
 refine go_seq ?_
 refine go_region rfl ?_
 refine go_pure0 Tk rfl rfl rfl ?_
 refine go_val0 rfl (ldv Tk rfl rfl rfl) rfl ?_
 refine go_call (relPlace0 q QA qc) rfl rfl (by rfl) rfl (by repeat constructor) (by repeat constructor) (fun h => nomatch h) ?_
 rintro _ _ _ ⟨rfl, rfl, rfl⟩
 refine go_pure0 Tk rfl rfl rfl ?_
 refine go_pure0 Tk rfl rfl rfl ?_
 refine go_pure0 Tk rfl rfl rfl ?_
 refine go_pure0 Tk rfl rfl rfl ?_
 refine go_pure0 Tk rfl rfl rfl ?_
 refine go_nil ?_
 refine go_env [(6, _)] ⟨rfl, trivial⟩ ?_
 refine go_seq ?_
 refine go_region rfl ?_
 refine go_pure0 Tk rfl rfl rfl ?_
 refine go_pure0 Tk rfl rfl rfl ?_
 refine go_nil ?_
 refine go_env [(4, _)] ⟨rfl, trivial⟩ ?_
 refine go_ret ⟨rfl, rfl⟩ _ _ (res1 (by rfl) (.tmp rfl)) ⟨rfl, rfl, rfl⟩ (by repeat constructor) (by repeat constructor)

theorem relHasN (p : Option Addr) (l : List Fa) (q : Fa) (QA : Option Addr) (qc : Nat) (hr : rises l) (hn : l.length ≤ 50000000) : Spec Tryz.prog 51 #[.pointer p, .agg #[.int .u32 q.p, .slice QA q.a.length qc]] [relN p l, sl tU QA qc q.a] [] (fun v Ps' Os' => v = .bool (decide (q ∈ l)) ∧ Ps' = [] ∧ Os' = []) :=
  Spec.onN (args := fun p => #[.pointer p, .agg #[.int .u32 q.p, .slice QA q.a.length qc]]) (fun e => by subst e; simpa using relHas0P q QA qc) (fun b => relHasP b l q QA qc hr hn)
theorem relLenN (p : Option Addr) (l : List Fa) : Spec Tryz.prog 37 #[.pointer p] [relN p l] [] (fun v Ps' Os' => v = .int .i64 (l.length : Int) ∧ Ps' = [] ∧ Os' = []) :=
  Spec.onN (args := fun p => #[.pointer p]) (fun e => by subst e; exact relLen0) (fun b => relLenP b l)

/-- What a loop over facts is handed: a fact, and where its Args lie. -/
abbrev Fx := Fa × Option Addr × Nat
def encX (x : Fx) : Value := .agg #[.int .u32 x.1.p, .slice x.2.1 x.1.a.length x.2.2]
def pxX (pre : List Fx) (x : Fx) : List PA := [PA.and (x.1.a.length ≤ 100000 ∧ pre.length ≤ 50000000) (sl tU x.2.1 x.2.2 x.1.a)]
/-- A box that bears a list that is owned through and through. -/
def ptl (b t : Nat) (l : List Fa) : OA := OA.ex fun A : Option Addr => OA.ex fun c : Nat => OA.all [pt b t [.slice A l.length c], dl tFa 52 A c l]
theorem ptl_mk {b t : Nat} {A : Option Addr} {c : Nat} {l : List Fa} {hp h : Heap} (q : Sep hp [pt b t [.slice A l.length c], dl tFa 52 A c l] h) : (ptl b t l).p hp h := ⟨A, c, q⟩
theorem go_ptl {C : Ctx} {k : List It} {E : Env} {Ps : List PA} {Os : List OA} {b t : Nat} {l : List Fa} {rr : List OA} (h : Rem (ptl b t l) Os rr) (g : ∀ (A : Option Addr) (c : Nat), Go C k E Ps ([pt b t [.slice A l.length c], dl tFa 52 A c l] ++ rr)) : Go C k E Ps Os :=
  go_oex h fun A => go_oex .here fun c => go_oall .here (g A c)
/-- A function of facts that answers p, with what it needs. -/
def SoSpec (g : FuncId) (cap : Array Value) (p : Fa → Bool) (PsS : List PA) : Prop :=
  ∀ (x : Fa) (A : Option Addr) (c : Nat), Spec Tryz.prog g (Value.agg #[.int .u32 x.p, .slice A x.a.length c] :: cap.toList).toArray (sl tU A c x.a :: PsS) [] (fun v Ps' Os' => v = .bool (p x) ∧ Ps' = [] ∧ Os' = [])
theorem filter_next {l : List Fa} {p : Fa → Bool} {k : Nat} (hk : k < l.length) {D : List Fx} (h : D.map (fun y : Fx => y.1) = (l.take k).filter p) : (p l[k] = true → ∀ (A : Option Addr) (c : Nat), (D ++ [((l[k], A, c) : Fx)]).map (fun y : Fx => y.1) = (l.take (k + 1)).filter p) ∧ (p l[k] = false → D.map (fun y : Fx => y.1) = (l.take (k + 1)).filter p) := by
  rw [List.take_succ_eq_append_getElem hk, List.filter_append]
  constructor
  · intro e A c; simp [h, e]
  · intro e; simp [h, e]

set_option maxHeartbeats 2000000 in
set_option maxRecDepth 20000 in
theorem those1 (ly bR bS : Nat) (R : List Fx → OA) (hY : Yld Tryz.prog ly encX pxX R) (p0 : Option Addr) (l : List Fa) (g : FuncId) (cap : Array Value) (p : Fa → Bool) (PS : PA) (hso : SoSpec g cap p [PS]) (hn : l.length ≤ 50000000) (hb : ∀ x ∈ l, x.a.length ≤ 100000) :
    Spec Tryz.prog 75 #[.func (.yield ly) #[] #[], .pointer (some ⟨bR, 0, none⟩), .pointer (some ⟨bS, 0, none⟩)] [cl bR 0 [.pointer p0], cl bS 0 [.func (.func g) #[] cap], relN p0 l, PS] [R []] (fun v Ps' Os' => ∃ xs : List Fx, xs.map (·.1) = l.filter p ∧ v = .tuple #[] ∧ Ps' = [] ∧ Os' = [R xs]) := by
 refine spec_of (fn := Tryz.f75) (args := [.func (.yield ly) #[] #[], .pointer (some ⟨bR, 0, none⟩), .pointer (some ⟨bS, 0, none⟩)]) 28 Tryz.func75 rfl (by kernel_rfl) Tryz.ntmps75 (Nat.le_of_ble_eq_true rfl) (fun w0 hp0 hf0 => ?_)
 refine go_seq ?_
 refine go_region rfl ?_
 refine go_val0 rfl (ldv Tk rfl rfl rfl) rfl ?_
 refine go_call (relLenN p0 l) rfl rfl (by rfl) rfl (by repeat constructor) (by repeat constructor) (fun h => nomatch h) ?_
 rintro _ _ _ ⟨rfl, rfl, rfl⟩
 refine go_pure0 Tk rfl rfl rfl ?_
 refine go_nil ?_
 refine go_env [(0, _), (1, _), (2, _), (7, _), (8, _)] ⟨rfl, rfl, rfl, rfl, rfl, trivial⟩ ?_
 refine go_block ?_
 refine go_loop' (X := Nat × List Fx) (fun x => [(8, .int .i64 (x.1 : Int))]) [(0, _), (1, _), (2, _), (7, _)] (fun x => [R x.2]) (fun x => x.1 ≤ l.length ∧ x.2.map (·.1) = (l.take x.1).filter p) (fun x => l.length - x.1) ((0, [])) ⟨rfl, rfl, rfl, rfl, rfl, trivial⟩ (by repeat constructor) ⟨by omega, by simp⟩ ?_
 intro ⟨k, D⟩ ⟨hk, hD⟩
 simp only at hk hD ⊢
 have hDl : D.length ≤ 50000000 := by
   have h1 := congrArg List.length hD
   have h2 := List.length_filter_le p (l.take k)
   rw [List.length_map] at h1
   rw [List.length_take] at h2
   omega
 refine go_seq ?_
 refine go_region rfl ?_
 refine go_pure0 Tk rfl rfl rfl ?_
 refine go_nil ?_
 refine go_env [(0, _), (1, _), (2, _), (7, _), (8, _), (9, _)] ⟨rfl, rfl, rfl, rfl, rfl, rfl, trivial⟩ ?_
 refine go_seq ?_
 refine go_condD rfl ?_ ?_
 ·intro c1
  refine go_skip ?_
  refine go_seq ?_
  refine go_block ?_
  refine go_seq ?_
  refine go_region rfl ?_
  refine go_pure0 Tk rfl rfl rfl ?_
  refine go_pure0 Tk rfl rfl rfl ?_
  refine go_nil ?_
  refine go_env [(0, _), (1, _), (2, _), (4, _), (7, _), (8, _)] ⟨rfl, rfl, rfl, rfl, rfl, rfl, trivial⟩ ?_
  refine go_seq ?_
  refine go_relN (p := p0) (l := l) (by repeat constructor) (by omega) (fun b hb0 => ?_); subst hb0
  refine go_relP (b := b) (by repeat constructor) (fun A1 c1 => ?_)
  refine go_elem_fa (xs := l) (by repeat constructor) (k) (List.getElem?_eq_getElem (by omega)) (fun b0 o0 FA fc hA => ?_); cases hA
  refine go_region rfl ?_
  refine go_val0 rfl (ldv Tk rfl rfl rfl) rfl ?_
  refine go_pure0 Tk rfl rfl rfl ?_
  refine go_pure0 Tk rfl rfl rfl ?_
  refine go_val0 rfl (ldv Tk rfl rfl rfl) rfl ?_
  refine go_pure0 Tk rfl rfl rfl ?_
  refine go_val0 rfl (idx_val Tk rfl rfl rfl rfl rfl (by omega)) rfl ?_
  refine go_val0 rfl (ldv Tk rfl rfl rfl) rfl ?_
  refine go_alloc Tk rfl rfl rfl (by rfl) rfl rfl (fun h => nomatch h) ?_
  intro b1
  refine go_store Tk rfl rfl rfl rfl rfl rfl (by repeat constructor) rfl rfl (by rfl) (fun h => nomatch h) ?_
  refine go_nil ?_
  refine go_env [(0, _), (1, _), (2, _), (5, _), (7, _), (8, _)] ⟨rfl, rfl, rfl, rfl, rfl, rfl, trivial⟩ ?_
  refine go_seq ?_
  refine go_regionY [false, false, false, false, false, false, true] rfl ?_
  refine go_val0 rfl (ldv Tk rfl rfl rfl) rfl ?_
  refine go_val0 rfl (ldv Tk rfl rfl rfl) rfl ?_
  refine go_call (hso l[k] FA fc) rfl rfl (by rfl) rfl (by repeat constructor) (by repeat constructor) (fun h => nomatch h) ?_
  rintro _ _ _ ⟨rfl, rfl, rfl⟩
  refine go_ent (PA.and (l[k].a.length ≤ 100000 ∧ D.length ≤ 50000000) (sl tU FA fc l[k].a)) (fun hh a => ⟨⟨hb _ (List.getElem_mem _), hDl⟩, a (sl tU FA fc l[k].a) (by repeat constructor)⟩) ?_
  refine go_pure0 Tk rfl rfl rfl ?_
  refine go_known 21 rfl ?_ ?_
  ·intro g1
   (try simp only [decide_eq_true_eq, decide_eq_false_iff_not, Bool.not_eq_true', Bool.not_eq_false', Bool.not_eq_eq_eq_not, Bool.not_true, Bool.not_false, Int.not_lt, Int.not_le, beq_iff_eq, beq_eq_false_iff_ne, ne_eq] at g1)
   refine go_pure0 Tk rfl rfl rfl ?_
   refine go_val0 rfl (ldv Tk rfl rfl rfl) rfl ?_
   refine go_yield hY (D) ((l[k], FA, fc)) rfl rfl rfl rfl rfl (by repeat constructor) (by repeat constructor) ?_
   refine go_pure0 Tk rfl rfl rfl ?_
   refine go_pure0 Tk rfl rfl rfl ?_
   refine go_nil ?_
   refine go_env [(0, _), (1, _), (2, _), (7, _), (8, _), (22, _), (23, _), (24, _), (25, _), (26, _)] ⟨rfl, rfl, rfl, rfl, rfl, rfl, rfl, rfl, rfl, rfl, trivial⟩ ?_
   refine go_cond_f rfl ?_
   refine go_skip ?_
   refine go_blk ?_
   refine go_region rfl ?_
   refine go_pure0 Tk rfl rfl rfl ?_
   refine go_pure0 Tk rfl rfl rfl ?_
   refine go_nil ?_
   refine go_i64 8 rfl (by omega) (by omega) ?_
   refine go_back (k + 1, _) ⟨rfl, rfl, rfl, rfl, rfl, trivial⟩ (by repeat constructor) (by repeat constructor) ⟨by show k + 1 ≤ _; omega, (filter_next (by omega) hD).1 g1 _ _⟩ (by show l.length - (k + 1) < l.length - k; omega)
  ·intro g1
   (try simp only [decide_eq_true_eq, decide_eq_false_iff_not, Bool.not_eq_true', Bool.not_eq_false', Bool.not_eq_eq_eq_not, Bool.not_true, Bool.not_false, Int.not_lt, Int.not_le, beq_iff_eq, beq_eq_false_iff_ne, ne_eq] at g1)
   refine go_skip0 rfl rfl ?_
   refine go_skip0 rfl rfl ?_
   refine go_skipY rfl rfl ?_
   refine go_skip0 rfl rfl ?_
   refine go_pure0 Tk rfl rfl rfl ?_
   refine go_nil ?_
   refine go_env [(0, _), (1, _), (2, _), (7, _), (8, _), (22, _), (23, _), (24, _), (25, _), (26, _)] ⟨rfl, rfl, rfl, rfl, rfl, rfl, rfl, rfl, rfl, rfl, trivial⟩ ?_
   refine go_cond_f rfl ?_
   refine go_skip ?_
   refine go_blk ?_
   refine go_region rfl ?_
   refine go_pure0 Tk rfl rfl rfl ?_
   refine go_pure0 Tk rfl rfl rfl ?_
   refine go_nil ?_
   refine go_i64 8 rfl (by omega) (by omega) ?_
   refine go_back (k + 1, D) ⟨rfl, rfl, rfl, rfl, rfl, trivial⟩ (by repeat constructor) (by repeat constructor) ⟨by show k + 1 ≤ _; omega, (filter_next (by omega) hD).2 g1⟩ (by show l.length - (k + 1) < l.length - k; omega)
 ·intro c1
  refine go_exit rfl ?_
  refine go_end ⟨rfl, rfl⟩ _ _ (res0 (by rfl)) ⟨D, by rw [List.take_of_length_le (by omega)] at hD; exact hD, rfl, rfl, rfl⟩ (by repeat constructor) (by repeat constructor)

set_option maxHeartbeats 2000000 in
set_option maxRecDepth 20000 in
theorem relThose (p0 : Option Addr) (g : FuncId) (cap : Array Value) :
    Spec Tryz.prog 60 #[.pointer p0, .func (.func g) #[] cap] [] [] (fun v Ps' Os' => ∃ bR bS, v = .func (.func 75) #[] #[.pointer (some ⟨bR, 0, none⟩), .pointer (some ⟨bS, 0, none⟩)] ∧ Ps' = [cl bR 0 [.pointer p0], cl bS 0 [.func (.func g) #[] cap]] ∧ Os' = []) := by
 refine spec_of (fn := Tryz.f60) (args := [.pointer p0, .func (.func g) #[] cap]) 6 Tryz.func60 rfl (by kernel_rfl) Tryz.ntmps60 (Nat.le_of_ble_eq_true rfl) (fun w0 hp0 hf0 => ?_)
 refine go_seq ?_
 refine go_region rfl ?_
 refine go_box Tk rfl rfl rfl rfl (by rfl) rfl rfl (fun h => nomatch h) ?_
 intro bR
 refine go_box Tk rfl rfl rfl rfl (by rfl) rfl rfl (fun h => nomatch h) ?_
 intro bS
 refine go_freeze_pt (b := bR) (by repeat constructor) ?_
 refine go_freeze_pt (b := bS) (by repeat constructor) ?_
 refine go_pure0 Tk rfl rfl rfl ?_
 refine go_nil ?_
 refine go_env [(2, _), (3, _)] ⟨rfl, rfl, trivial⟩ ?_
 refine go_seq ?_
 refine go_region rfl ?_
 refine go_pure0 Tk rfl rfl rfl ?_
 refine go_pure0 Tk rfl rfl rfl ?_
 refine go_nil ?_
 refine go_env [(4, _)] ⟨rfl, trivial⟩ ?_
 refine go_ret ⟨rfl, rfl⟩ _ _ (res1 (by rfl) (.tmp rfl)) ⟨bR, bS, rfl, rfl, rfl⟩ (by repeat constructor) (by repeat constructor)

set_option maxHeartbeats 2000000 in
set_option maxRecDepth 20000 in
theorem relList_ (p0 : Option Addr) (l : List Fa) (g : FuncId) (cap : Array Value) (p : Fa → Bool) (PS : PA) (hso : SoSpec g cap p [PS]) (hn : l.length ≤ 50000000) (hb : ∀ x ∈ l, x.a.length ≤ 100000) :
    Spec Tryz.prog 44 #[.pointer p0, .func (.func g) #[] cap] [relN p0 l, PS] [] (fun v Ps' Os' => ∃ A c, v = .slice A (l.filter p).length c ∧ Ps' = [] ∧ Os' = [dl tFa 52 A c (l.filter p)]) := by
 refine spec_of (fn := Tryz.f44) (args := [.pointer p0, .func (.func g) #[] cap]) 16 Tryz.func44 rfl (by kernel_rfl) Tryz.ntmps44 (Nat.le_of_ble_eq_true rfl) (fun w0 hp0 hf0 => ?_)
 refine go_seq ?_
 refine go_region rfl ?_
 refine go_alloc Tk rfl rfl rfl (by rfl) rfl rfl (fun h => nomatch h) ?_
 intro br
 refine go_nil ?_
 refine go_env [(0, _), (1, _), (4, _)] ⟨rfl, rfl, rfl, trivial⟩ ?_
 refine go_seq ?_
 refine go_seq ?_
 refine go_region rfl ?_
 refine go_pure0 Tk rfl rfl rfl ?_
 refine go_pure0 Tk rfl rfl rfl ?_
 refine go_call (relThose p0 g cap) rfl rfl (by rfl) rfl (by repeat constructor) (by repeat constructor) (fun h => nomatch h) ?_
 rintro _ _ _ ⟨bR, bS, rfl, rfl, rfl⟩
 refine go_down_nil tFa 52 none ?_
 refine go_fold [pt br 29 [.slice none 0 0], dl tFa 52 none 0 []] (ptl br 29 []) (by repeat constructor) (fun _ _ q => ⟨none, 0, q⟩) ?_
 refine go_nil ?_
 refine go_env [(4, _), (8, _)] ⟨rfl, rfl, trivial⟩ ?_
 refine go_block ?_
 refine go_range (α := Fx) (enc := encX) (Px := pxX) rfl rfl rfl (fun D => [ptl br 29 (D.map (fun y : Fx => y.1))]) ([]) ([]) (by repeat constructor) (by repeat constructor) ([cl bR 0 [.pointer p0], cl bS 0 [.func (.func g) #[] cap], relN p0 l, PS]) (by repeat constructor) (fun xs => xs.map (·.1) = l.filter p) (fun ly R hY => (those1 ly bR bS R hY p0 l g cap p PS hso hn hb).imp fun v P' O' ⟨xs, h1, _, h2, h3⟩ => ⟨xs, h1, h2, h3⟩) (X := Nat) (fun x => [(5, .pointer (some ⟨x, 0, none⟩))]) [(4, .pointer (some ⟨br, 0, none⟩))] (fun pre x y => [pt y 52 [.int .u32 x.1.p, .slice x.2.1 x.1.a.length x.2.2], ptl br 29 (pre.map (fun y : Fx => y.1))]) (fun _ _ _ => True) (fun ly pre x w0' hp0' hf0' => ?_) (fun ly pre x y _ w0' hp0' hf0' => ?_) (fun D xs hdj hxs => ?_)
 ·skip
  refine go_region rfl ?_
  refine go_alloc Tk rfl rfl rfl (by rfl) rfl rfl (fun h => nomatch h) ?_
  intro b1
  refine go_store Tk rfl rfl rfl rfl rfl rfl (by repeat constructor) rfl rfl (by rfl) (fun h => nomatch h) ?_
  refine go_nil ?_
  refine go_back _ ⟨rfl, rfl, trivial⟩ (by repeat constructor) (by repeat constructor) trivial (by decide)
 ·skip
  refine go_pand (fun hxa => ?_)
  refine go_ptl (b := br) (by repeat constructor) (fun A1 c1 => ?_)
  refine go_block ?_
  refine go_draw'  [0, 1] (SL.pre [(2, 0), (2, 1), (0, 2), (0, 3), (0, 4), (0, 5)] .nil) mixed rfl (by kernel_rfl) ?_
  refine go_val2a rfl (ldv Tk rfl rfl rfl) rfl ?_
  refine go_val2a rfl (ldv Tk rfl rfl rfl) rfl ?_
  refine go_call (relCopied x.1 x.2.1 x.2.2 hxa.1) rfl rfl (by rfl) rfl (by repeat constructor) (by repeat constructor) (fun _ v Ps' Os' hq => by obtain ⟨A', c', rfl, rfl, rfl⟩ := hq; exact satS (by repeat constructor) (by repeat constructor)) ?_
  rintro _ _ _ ⟨A', c', rfl, rfl, rfl⟩
  refine go_vo_fa (A := A') (c := c') x.1 (by repeat constructor) ?_
  refine go_bslice Tk rfl rfl rfl rfl rfl rfl rfl rfl (fun _ _ => satA) ?_
  intro bn
  refine go_append1d (T := tFa) (xs := pre.map (fun y : Fx => y.1)) Tk x.1 rfl rfl rfl rfl rfl rfl rfl rfl rfl (by repeat constructor) (by repeat constructor) (by repeat constructor) rfl (by rw [List.length_map]; omega) (fun h => nomatch h) ?_
  intro A2 c2
  refine go_store Tk rfl rfl rfl rfl rfl rfl (by repeat constructor) rfl rfl (by rfl) (fun h => nomatch h) ?_
  refine go_nil ?_
  refine go_fold [pt br 29 [.slice A2 (pre.map (fun y : Fx => y.1) ++ [x.1]).length c2], dl tFa 52 A2 c2 (pre.map (fun y : Fx => y.1) ++ [x.1])] (ptl br 29 ((pre ++ [x]).map (fun y : Fx => y.1))) (by repeat constructor) (fun _ _ q => by rw [List.map_append]; exact ptl_mk q) ?_
  refine go_env [] trivial ?_
  refine go_blk ?_
  refine go_back () trivial (by repeat constructor) (by repeat constructor) trivial (by decide)
 refine go_blk ?_
 refine go_seq ?_
 rw [hxs]
 refine go_ptl (b := br) (by repeat constructor) (fun A1 c1 => ?_)
 refine go_region rfl ?_
 refine go_val0 rfl (ldv Tk rfl rfl rfl) rfl ?_
 refine go_store Tk rfl rfl rfl rfl rfl rfl (by repeat constructor) rfl rfl (by rfl) (fun h => nomatch h) ?_
 refine go_nil ?_
 refine go_env [(4, _)] ⟨rfl, trivial⟩ ?_
 refine go_retR ⟨rfl, rfl⟩ hdj _ _ (res1 (by rfl) (.cell rfl (rdv Tk rfl))) ⟨_, _, rfl, rfl, rfl⟩ (by repeat constructor) (by repeat constructor)

end Go.Proofs.YtkhddfknpegpmaaGreat.SL

/- Contracts of functions of the program (Matchs): what each call comes to, for the laws' proofs. -/
set_option linter.unusedVariables false
set_option linter.unusedSimpArgs false
namespace Go.Proofs.YtkhddfknpegpmaaGreat.SL
open Go 

set_option maxHeartbeats 2000000 in
set_option maxRecDepth 20000 in
theorem atomsKind (t : Tm) (n : Int) :
    Spec Tryz.prog 83 #[.agg #[.bool t.v, .int .u32 t.n], .int .u32 n] [] [] (fun v Ps' Os' => v = .int .i64 (if t.v then 2 else if t.n = n then 1 else 0) ∧ Ps' = [] ∧ Os' = []) := by
 refine spec_of (fn := Tryz.f83) (args := [.agg #[.bool t.v, .int .u32 t.n], .int .u32 n]) 13 Tryz.func83 rfl (by kernel_rfl) Tryz.ntmps83 (Nat.le_of_ble_eq_true rfl) (fun w0 hp0 hf0 => ?_)
 refine go_seq ?_
 refine go_region rfl ?_
 refine go_box Tk rfl rfl rfl rfl (by rfl) rfl rfl (fun h => nomatch h) ?_
 intro b1
 refine go_pure0 Tk rfl rfl rfl ?_
 refine go_nil ?_
 refine go_env [(1, _), (2, _)] ⟨rfl, rfl, trivial⟩ ?_
 refine go_seq ?_
 refine go_block ?_
 refine go_seq ?_
 refine go_region rfl ?_
 refine go_pure0 Tk rfl rfl rfl ?_
 refine go_val0 rfl (ldv Tk rfl rfl rfl) rfl ?_
 refine go_pure0 Tk rfl rfl rfl ?_
 refine go_nil ?_
 refine go_env [(1, _), (2, _), (5, _)] ⟨rfl, rfl, rfl, trivial⟩ ?_
 refine go_cond rfl ?_ ?_
 ·intro h1
  (try simp only [decide_eq_true_eq, decide_eq_false_iff_not, Bool.not_eq_true', Bool.not_eq_false', Bool.not_eq_eq_eq_not, Bool.not_true, Bool.not_false, Int.not_lt, Int.not_le, beq_iff_eq, beq_eq_false_iff_ne, ne_eq] at h1)
  refine go_seq ?_
  refine go_region rfl ?_
  refine go_pure0 Tk rfl rfl rfl ?_
  refine go_nil ?_
  refine go_env [(4, _)] ⟨rfl, trivial⟩ ?_
  refine go_ret ⟨rfl, rfl⟩ _ _ (res1 (by rfl) (.tmp rfl)) ⟨by rw [h1]; rfl, rfl, rfl⟩ (by repeat constructor) (by repeat constructor)
 ·intro h1
  (try simp only [decide_eq_true_eq, decide_eq_false_iff_not, Bool.not_eq_true', Bool.not_eq_false', Bool.not_eq_eq_eq_not, Bool.not_true, Bool.not_false, Int.not_lt, Int.not_le, beq_iff_eq, beq_eq_false_iff_ne, ne_eq] at h1)
  refine go_seq ?_
  refine go_region rfl ?_
  refine go_pure0 Tk rfl rfl rfl ?_
  refine go_val0 rfl (ldv Tk rfl rfl rfl) rfl ?_
  refine go_pure0 Tk rfl rfl rfl ?_
  refine go_pure0 Tk rfl rfl rfl ?_
  refine go_pure0 Tk rfl rfl rfl ?_
  refine go_nil ?_
  refine go_env [(8, _)] ⟨rfl, trivial⟩ ?_
  refine go_cond rfl ?_ ?_
  ·intro h2
   (try simp only [decide_eq_true_eq, decide_eq_false_iff_not, Bool.not_eq_true', Bool.not_eq_false', Bool.not_eq_eq_eq_not, Bool.not_true, Bool.not_false, Int.not_lt, Int.not_le, beq_iff_eq, beq_eq_false_iff_ne, ne_eq] at h2)
   refine go_seq ?_
   refine go_region rfl ?_
   refine go_pure0 Tk rfl rfl rfl ?_
   refine go_nil ?_
   refine go_env [(4, _)] ⟨rfl, trivial⟩ ?_
   refine go_ret ⟨rfl, rfl⟩ _ _ (res1 (by rfl) (.tmp rfl)) ⟨by rw [h1, if_neg (by decide), if_pos h2], rfl, rfl⟩ (by repeat constructor) (by repeat constructor)
  ·intro h2
   (try simp only [decide_eq_true_eq, decide_eq_false_iff_not, Bool.not_eq_true', Bool.not_eq_false', Bool.not_eq_eq_eq_not, Bool.not_true, Bool.not_false, Int.not_lt, Int.not_le, beq_iff_eq, beq_eq_false_iff_ne, ne_eq] at h2)
   refine go_skip ?_
   refine go_blk ?_
   refine go_seq ?_
   refine go_region rfl ?_
   refine go_pure0 Tk rfl rfl rfl ?_
   refine go_nil ?_
   refine go_env [(4, _)] ⟨rfl, trivial⟩ ?_
   refine go_ret ⟨rfl, rfl⟩ _ _ (res1 (by rfl) (.tmp rfl)) ⟨by rw [h1, if_neg (by decide), if_neg h2], rfl, rfl⟩ (by repeat constructor) (by repeat constructor)

set_option maxHeartbeats 2000000 in
set_option maxRecDepth 20000 in
theorem indexTm (A : Option Addr) (c : Nat) (l : List Tm) (x : Tm) :
    Spec Tryz.prog 100 #[.slice A l.length c, .agg #[.bool x.v, .int .u32 x.n]] [sl tTm A c l] [] (fun v Ps' Os' => v = .int .i64 (idxT l x) ∧ Ps' = [] ∧ Os' = []) := by
 refine spec_of (fn := Tryz.f100) (args := [.slice A l.length c, .agg #[.bool x.v, .int .u32 x.n]]) 19 Tryz.func100 rfl (by kernel_rfl) Tryz.ntmps100 (Nat.le_of_ble_eq_true rfl) (fun w0 hp0 hf0 => ?_)
 refine go_seq ?_
 refine go_len (xs := l) (by repeat constructor) (fun l0 m0 => ?_)
 refine go_region rfl ?_
 refine go_box Tk rfl rfl rfl rfl (by rfl) rfl rfl (fun h => nomatch h) ?_
 intro b1
 refine go_pure0 Tk rfl rfl rfl ?_
 refine go_nil ?_
 refine go_env [(0, _), (3, _)] ⟨rfl, rfl, trivial⟩ ?_
 refine go_seq ?_
 refine go_seq ?_
 refine go_region rfl ?_
 refine go_pure0 Tk rfl rfl rfl ?_
 refine go_pure0 Tk rfl rfl rfl ?_
 refine go_pure0 Tk rfl rfl rfl ?_
 refine go_nil ?_
 refine go_env [(0, _), (3, _), (7, _), (8, _)] ⟨rfl, rfl, rfl, rfl, trivial⟩ ?_
 refine go_block ?_
 refine go_loop' (X := Nat) (fun k => [(8, .int .i64 (k : Int))]) [(0, _), (3, _), (7, _)] (fun _ => []) (fun k => k ≤ l.length ∧ ∀ y ∈ l.take k, ¬ y = x) (fun k => l.length - k) (0) ⟨rfl, rfl, rfl, rfl, trivial⟩ (by repeat constructor) ⟨by omega, by simp⟩ ?_
 intro k ⟨hk, hz⟩
 refine go_seq ?_
 refine go_region rfl ?_
 refine go_pure0 Tk rfl rfl rfl ?_
 refine go_nil ?_
 refine go_env [(0, _), (3, _), (7, _), (8, _), (9, _)] ⟨rfl, rfl, rfl, rfl, rfl, trivial⟩ ?_
 refine go_seq ?_
 refine go_condD rfl ?_ ?_
 ·intro c1
  refine go_skip ?_
  refine go_seq ?_
  refine go_block ?_
  refine go_seq ?_
  refine go_region rfl ?_
  refine go_pure0 Tk rfl rfl rfl ?_
  refine go_pure0 Tk rfl rfl rfl ?_
  refine go_nil ?_
  refine go_env [(0, _), (3, _), (5, _), (7, _), (8, _)] ⟨rfl, rfl, rfl, rfl, rfl, trivial⟩ ?_
  refine go_seq ?_
  refine go_elem_tm (xs := l) (by repeat constructor) (k) (List.getElem?_eq_getElem (by omega)) (fun b o hA => ?_); cases hA
  refine go_draw'  [0, 4] (SL.pre [(1, 1), (1, 2), (1, 3), (2, 0), (2, 4), (1, 5)] .nil) mixed rfl (by kernel_rfl) ?_
  refine go_pure1 Tk rfl rfl rfl ?_
  refine go_pure1 Tk rfl rfl rfl ?_
  refine go_val1 rfl (idx_val Tk rfl rfl rfl rfl rfl (by omega)) rfl ?_
  refine go_val2a rfl (ldv Tk rfl rfl rfl) rfl ?_
  refine go_val2a rfl (ldv Tk rfl rfl rfl) rfl ?_
  refine go_val1 rfl (seq_val Tk rfl rfl rfl rfl (by rfl) rfl (by kernel_rfl) (by kernel_rfl)) rfl ?_
  refine go_re 16 (.bool (decide (l[k] = x))) (by show some (Value.bool _) = _; rw [tm_eq]) ?_
  refine go_nil ?_
  refine go_env [(0, _), (3, _), (5, _), (7, _), (8, _), (16, _)] ⟨rfl, rfl, rfl, rfl, rfl, rfl, trivial⟩ ?_
  refine go_cond rfl ?_ ?_
  ·intro c2
   (try simp only [decide_eq_true_eq, decide_eq_false_iff_not, Bool.not_eq_true', Bool.not_eq_false', Bool.not_eq_eq_eq_not, Bool.not_true, Bool.not_false, Int.not_lt, Int.not_le, beq_iff_eq, beq_eq_false_iff_ne, ne_eq] at c2)
   refine go_seq ?_
   refine go_region rfl ?_
   refine go_pure0 Tk rfl rfl rfl ?_
   refine go_pure0 Tk rfl rfl rfl ?_
   refine go_nil ?_
   refine go_env [(4, _)] ⟨rfl, trivial⟩ ?_
   refine go_ret ⟨rfl, rfl⟩ _ _ (res1 (by rfl) (.tmp rfl)) ⟨by unfold idxT; rw [idxT_hit (by omega) hz c2], rfl, rfl⟩ (by repeat constructor) (by repeat constructor)
  ·intro c2
   (try simp only [decide_eq_true_eq, decide_eq_false_iff_not, Bool.not_eq_true', Bool.not_eq_false', Bool.not_eq_eq_eq_not, Bool.not_true, Bool.not_false, Int.not_lt, Int.not_le, beq_iff_eq, beq_eq_false_iff_ne, ne_eq] at c2)
   refine go_skip ?_
   refine go_blk ?_
   refine go_region rfl ?_
   refine go_pure0 Tk rfl rfl rfl ?_
   refine go_pure0 Tk rfl rfl rfl ?_
   refine go_nil ?_
   refine go_i64 8 rfl (by omega) (by omega) ?_
   refine go_back (k + 1) ⟨rfl, rfl, rfl, rfl, trivial⟩ (by repeat constructor) (by repeat constructor) ⟨by omega, mem_take_next' (by omega) hz c2⟩ (by omega)
 ·intro c1
  refine go_exit rfl ?_
  refine go_seq ?_
  refine go_region rfl ?_
  refine go_pure0 Tk rfl rfl rfl ?_
  refine go_nil ?_
  refine go_env [(4, _)] ⟨rfl, trivial⟩ ?_
  refine go_ret ⟨rfl, rfl⟩ _ _ (res1 (by rfl) (.tmp rfl)) ⟨by unfold idxT; rw [idxT_none (by rw [List.take_of_length_le (by omega)] at hz; exact hz)], rfl, rfl⟩ (by repeat constructor) (by repeat constructor)

/-- What is held of variables, in memory. -/
def heldO (b : Nat) (σ : Int → Option Int) (m : Nat) : OA := OA.ex fun few : List Int => OA.ex fun is : List Bool => OA.ex fun many : List Tm => OA.ex fun by_ : List Int => OA.ex fun A1 : Option Addr => OA.ex fun c1 : Nat => OA.ex fun A2 : Option Addr => OA.ex fun c2 : Nat =>
  OA.and (HeldOk few is many by_ σ m) (OA.all [pt b 125 (hc few is [.slice A1 many.length c1, .slice A2 by_.length c2]), ol tTm 58 A1 c1 many, ol tU 22 A2 c2 by_])
theorem go_held {C : Ctx} {k : List It} {E : Env} {Ps : List PA} {Os : List OA} {b m : Nat} {σ : Int → Option Int} {rr : List OA} (h : Rem (heldO b σ m) Os rr)
    (g : ∀ few is many by_ A1 c1 A2 c2, HeldOk few is many by_ σ m → Go C k E Ps ([pt b 125 (hc few is [.slice A1 many.length c1, .slice A2 by_.length c2]), ol tTm 58 A1 c1 many, ol tU 22 A2 c2 by_] ++ rr)) : Go C k E Ps Os :=
  go_oex h fun few => go_oex .here fun is => go_oex .here fun many => go_oex .here fun by_ => go_oex .here fun A1 => go_oex .here fun c1 => go_oex .here fun A2 => go_oex .here fun c2 => go_oand .here fun hk => go_oall .here (g few is many by_ A1 c1 A2 c2 hk)
theorem heldO_mk {b m : Nat} {σ : Int → Option Int} {few : List Int} {is : List Bool} {many : List Tm} {by_ : List Int} {A1 : Option Addr} {c1 : Nat} {A2 : Option Addr} {c2 : Nat} (hk : HeldOk few is many by_ σ m) {hp h : Heap}
    (q : Sep hp [pt b 125 (hc few is [.slice A1 many.length c1, .slice A2 by_.length c2]), ol tTm 58 A1 c1 many, ol tU 22 A2 c2 by_] h) : (heldO b σ m).p hp h := ⟨few, is, many, by_, A1, c1, A2, c2, hk, q⟩
theorem held_more {few : List Int} {is : List Bool} {many : List Tm} {by_ : List Int} {σ : Int → Option Int} {m : Nat} (h : HeldOk few is many by_ σ m) : HeldOk few is many by_ σ (m + 1) := ⟨h.l1, h.l2, h.l3, by have := h.l4; omega, h.so⟩
theorem heldO_more {b m : Nat} {σ : Int → Option Int} {hp h : Heap} (q : (heldO b σ m).p hp h) : (heldO b σ (m + 1)).p hp h := by
  obtain ⟨few, is, many, by_, A1, c1, A2, c2, hk, q⟩ := q
  exact ⟨few, is, many, by_, A1, c1, A2, c2, held_more hk, q⟩

set_option maxHeartbeats 2000000 in
set_option maxRecDepth 20000 in
theorem standsSmall (b : Nat) (σ : Int → Option Int) (m : Nat) (j : Nat) (n : Int) (hj : j < 16) :
    Spec Tryz.prog 84 #[.pointer (some ⟨b, 0, none⟩), .agg #[.bool true, .int .u32 (j : Int)], .int .u32 n] [] [heldO b σ m] (fun v Ps' Os' => ∃ σ', v = .bool (decide (σ (j : Int) = none ∨ σ (j : Int) = some n)) ∧ ((σ (j : Int) = none ∨ σ (j : Int) = some n) → σ' = upd σ (j : Int) n) ∧ Ps' = [] ∧ Os' = [heldO b σ' (m + 1)]) := by
 refine spec_of (fn := Tryz.f84) (args := [.pointer (some ⟨b, 0, none⟩), .agg #[.bool true, .int .u32 (j : Int)], .int .u32 n]) 84 Tryz.func84 rfl (by kernel_rfl) Tryz.ntmps84 (Nat.le_of_ble_eq_true rfl) (fun w0 hp0 hf0 => ?_)
 refine go_seq ?_
 refine go_held (b := b) (by repeat constructor) (fun few is many by_ A1 c1 A2 c2 hk => ?_)
 have f1 := hk.l1
 have f2 := hk.l2
 have f3 := hk.so j (by omega)
 rw [sig, if_pos (by omega), Int.toNat_natCast] at f3
 refine go_region rfl ?_
 refine go_box Tk rfl rfl rfl rfl (by rfl) rfl rfl (fun h => nomatch h) ?_
 intro bt
 refine go_freeze_pt (b := bt) (by repeat constructor) ?_
 refine go_pure0 Tk rfl rfl rfl ?_
 refine go_nil ?_
 refine go_env [(0, _), (2, _), (4, _)] ⟨rfl, rfl, rfl, trivial⟩ ?_
 refine go_seq ?_
 refine go_seq ?_
 refine go_region rfl ?_
 refine go_pure0 Tk rfl rfl rfl ?_
 refine go_val0 rfl (ldv Tk rfl rfl rfl) rfl ?_
 refine go_pure0 Tk rfl rfl rfl ?_
 refine go_re 12 (.bool true) (by show some (Value.bool (decide _)) = _; rw [decide_eq_true (by omega)]) ?_
 refine go_nil ?_
 refine go_env [(0, _), (2, _), (4, _), (12, _)] ⟨rfl, rfl, rfl, rfl, trivial⟩ ?_
 refine go_cond_t rfl ?_
 refine go_seq ?_
 refine go_draw'  [2, 6] (SL.pre [(1, 0), (1, 1), (1, 3), (1, 4), (2, 2), (1, 5), (2, 6), (1, 7)] .nil) mixed rfl (by kernel_rfl) ?_
 refine go_pure1 Tk rfl rfl rfl ?_
 refine go_pure1 Tk rfl rfl rfl ?_
 refine go_pure1 Tk rfl rfl rfl ?_
 refine go_pure1 Tk rfl rfl rfl ?_
 refine go_val2a rfl (ldv Tk rfl rfl rfl) rfl ?_
 refine go_val1 rfl (idxA_val Tk rfl rfl rfl rfl rfl (by omega)) rfl ?_
 refine go_val2a rfl (load_val (cs := [.int .u32 few[j]]) Tk rfl rfl rfl (at_one (by repeat constructor) (hc_few (by omega) (by show 0 + 0 + j * 1 = j; omega))) rfl) rfl ?_
 refine go_pure1 Tk rfl rfl rfl ?_
 refine go_nil ?_
 refine go_env [(0, _), (2, _), (4, _), (7, _)] ⟨rfl, rfl, rfl, rfl, trivial⟩ ?_
 refine go_seq ?_
 refine go_draw'  [2, 6] (SL.pre [(1, 0), (1, 1), (1, 3), (1, 4), (2, 2), (1, 5), (2, 6), (1, 7)] .nil) mixed rfl (by kernel_rfl) ?_
 refine go_pure1 Tk rfl rfl rfl ?_
 refine go_pure1 Tk rfl rfl rfl ?_
 refine go_pure1 Tk rfl rfl rfl ?_
 refine go_pure1 Tk rfl rfl rfl ?_
 refine go_val2a rfl (ldv Tk rfl rfl rfl) rfl ?_
 refine go_val1 rfl (idxA_val Tk rfl rfl rfl rfl rfl (by omega)) rfl ?_
 refine go_val2a rfl (load_val (cs := [.bool is[j]]) Tk rfl rfl rfl (at_one (by repeat constructor) (hc_is (by omega) (by show 0 + 16 + j * 1 = _; omega))) rfl) rfl ?_
 refine go_pure1 Tk rfl rfl rfl ?_
 refine go_nil ?_
 refine go_env [(0, _), (2, _), (4, _), (7, _), (8, _)] ⟨rfl, rfl, rfl, rfl, rfl, trivial⟩ ?_
 refine go_seq ?_
 refine go_draw ([cl bt 0 [.bool true, .int .u32 (j : Int)]]) ([]) [2, 5] (SL.pre [(1, 0), (1, 1), (1, 3), (1, 4), (1, 6), (1, 7), (1, 8), (1, 11), (1, 12), (2, 2), (1, 9), (2, 5), (0, 10), (1, 13), (0, 14)] .nil) mixed rfl (by kernel_rfl) ?_
 refine go_pure1 Tk rfl rfl rfl ?_
 refine go_pure1 Tk rfl rfl rfl ?_
 refine go_pure1 Tk rfl rfl rfl ?_
 refine go_pure1 Tk rfl rfl rfl ?_
 refine go_pure1 Tk rfl rfl rfl ?_
 refine go_pure1 Tk rfl rfl rfl ?_
 refine go_pure1 Tk rfl rfl rfl ?_
 refine go_pure1 Tk rfl rfl rfl ?_
 refine go_pure1 Tk rfl rfl rfl ?_
 refine go_val2a rfl (ldv Tk rfl rfl rfl) rfl ?_
 refine go_val1 rfl (idxA_val Tk rfl rfl rfl rfl rfl (by omega)) rfl ?_
 refine go_val2a rfl (ldv Tk rfl rfl rfl) rfl ?_
 refine go_store Tk rfl rfl rfl rfl rfl rfl (by repeat constructor) rfl rfl (hc_put_few (j := j) (by omega) (by show 0 + 0 + j * 1 = j; omega)) (fun _ => satS (by repeat constructor) (by repeat constructor)) ?_
 refine go_val1 rfl (idxA_val Tk rfl rfl rfl rfl rfl (by omega)) rfl ?_
 refine go_store Tk rfl rfl rfl rfl rfl rfl (by repeat constructor) rfl rfl (hc_put_is (j := j) (by omega) (by show 0 + 16 + j * 1 = _; rw [List.length_set]; omega)) (fun h => nomatch h) ?_
 refine go_nil ?_
 refine go_fold [pt b 125 (hc (few.set j n) (is.set j true) [.slice A1 (many).length c1, .slice A2 (by_).length c2]), ol tTm 58 A1 c1 (many), ol tU 22 A2 c2 (by_)] (heldO b (upd σ j n) (m + 1)) (by repeat constructor) (fun _ _ q => heldO_mk (held_more (held_small hk hj n)) q) ?_
 refine go_env [(2, _), (7, _), (8, _)] ⟨rfl, rfl, rfl, trivial⟩ ?_
 refine go_seq ?_
 refine go_region rfl ?_
 refine go_pure0 Tk rfl rfl rfl ?_
 refine go_pure0 Tk rfl rfl rfl ?_
 refine go_pure0 Tk rfl rfl rfl ?_
 refine go_known 42 rfl ?_ ?_
 ·intro g1
  (try simp only [decide_eq_true_eq, decide_eq_false_iff_not, Bool.not_eq_true', Bool.not_eq_false', Bool.not_eq_eq_eq_not, Bool.not_true, Bool.not_false, Int.not_lt, Int.not_le, beq_iff_eq, beq_eq_false_iff_ne, ne_eq] at g1)
  refine go_skip0 rfl rfl ?_
  refine go_skip0 rfl rfl ?_
  refine go_skip0 rfl rfl ?_
  refine go_pure0 Tk rfl rfl rfl ?_
  refine go_pure0 Tk rfl rfl rfl ?_
  refine go_nil ?_
  refine go_env [(6, _)] ⟨rfl, trivial⟩ ?_
  refine go_ret ⟨rfl, rfl⟩ _ _ (res1 (by rfl) (.tmp rfl)) ⟨upd σ j n, congrArg Value.bool (st_new hj f1 f2 f3 g1).symm, fun _ => rfl, rfl, rfl⟩ (by repeat constructor) (by repeat constructor)
 ·intro g1
  (try simp only [decide_eq_true_eq, decide_eq_false_iff_not, Bool.not_eq_true', Bool.not_eq_false', Bool.not_eq_eq_eq_not, Bool.not_true, Bool.not_false, Int.not_lt, Int.not_le, beq_iff_eq, beq_eq_false_iff_ne, ne_eq] at g1)
  refine go_pure0 Tk rfl rfl rfl ?_
  refine go_pure0 Tk rfl rfl rfl ?_
  refine go_pure0 Tk rfl rfl rfl ?_
  refine go_pure0 Tk rfl rfl rfl ?_
  refine go_pure0 Tk rfl rfl rfl ?_
  refine go_nil ?_
  refine go_env [(6, _)] ⟨rfl, trivial⟩ ?_
  refine go_ret ⟨rfl, rfl⟩ _ _ (res1 (by rfl) (.tmp rfl)) ⟨upd σ j n, congrArg Value.bool (st_old hj f1 f2 f3 g1).symm, fun _ => rfl, rfl, rfl⟩ (by repeat constructor) (by repeat constructor)

set_option maxHeartbeats 2000000 in
set_option maxRecDepth 20000 in
theorem standsBig (b : Nat) (σ : Int → Option Int) (m : Nat) (x n : Int) (hx : 16 ≤ x) (hm : m ≤ 1000000) :
    Spec Tryz.prog 84 #[.pointer (some ⟨b, 0, none⟩), .agg #[.bool true, .int .u32 x], .int .u32 n] [] [heldO b σ m] (fun v Ps' Os' => ∃ σ', v = .bool (decide (σ x = none ∨ σ x = some n)) ∧ ((σ x = none ∨ σ x = some n) → σ' = upd σ x n) ∧ Ps' = [] ∧ Os' = [heldO b σ' (m + 1)]) := by
 refine spec_of (fn := Tryz.f84) (args := [.pointer (some ⟨b, 0, none⟩), .agg #[.bool true, .int .u32 x], .int .u32 n]) 84 Tryz.func84 rfl (by kernel_rfl) Tryz.ntmps84 (Nat.le_of_ble_eq_true rfl) (fun w0 hp0 hf0 => ?_)
 refine go_seq ?_
 refine go_held (b := b) (by repeat constructor) (fun few is many by_ A1 c1 A2 c2 hk => ?_)
 have f1 := hk.l1
 have f2 := hk.l2
 have f4 := hk.l4
 have f5 := hk.l3
 have f3 := sig_big hk hx
 refine go_region rfl ?_
 refine go_box Tk rfl rfl rfl rfl (by rfl) rfl rfl (fun h => nomatch h) ?_
 intro bt
 refine go_freeze_pt (b := bt) (by repeat constructor) ?_
 refine go_pure0 Tk rfl rfl rfl ?_
 refine go_nil ?_
 refine go_env [(0, _), (2, _), (4, _)] ⟨rfl, rfl, rfl, trivial⟩ ?_
 refine go_seq ?_
 refine go_seq ?_
 refine go_region rfl ?_
 refine go_pure0 Tk rfl rfl rfl ?_
 refine go_val0 rfl (ldv Tk rfl rfl rfl) rfl ?_
 refine go_pure0 Tk rfl rfl rfl ?_
 refine go_re 12 (.bool false) (by show some (Value.bool (decide _)) = _; rw [decide_eq_false (by omega)]) ?_
 refine go_nil ?_
 refine go_env [(0, _), (2, _), (4, _), (12, _)] ⟨rfl, rfl, rfl, rfl, trivial⟩ ?_
 refine go_cond_f rfl ?_
 refine go_skip ?_
 refine go_seq ?_
 refine go_seq ?_
 refine go_draw'  [3, 4] (SL.pre [(1, 0), (1, 1), (1, 2), (2, 3), (2, 4), (0, 5), (1, 6)] .nil) mixed rfl (by kernel_rfl) ?_
 refine go_pure1 Tk rfl rfl rfl ?_
 refine go_pure1 Tk rfl rfl rfl ?_
 refine go_pure1 Tk rfl rfl rfl ?_
 refine go_val2a rfl (load_val (cs := [.slice A1 many.length c1]) Tk rfl rfl rfl (at_one (by repeat constructor) (hc_tail (j := 0) rfl (by show 0 + 32 = _; omega))) rfl) rfl ?_
 refine go_val2a rfl (ldv Tk rfl rfl rfl) rfl ?_
 refine go_call ((indexTm A1 c1 many ⟨true, x⟩).ownl (e := 58)) rfl rfl (by rfl) rfl (by repeat constructor) (by repeat constructor) (fun h => nomatch h) ?_
 rintro _ _ _ ⟨rfl, rfl, rfl⟩
 refine go_pure1 Tk rfl rfl rfl ?_
 refine go_nil ?_
 refine go_env [(0, _), (2, _), (4, _), (9, _)] ⟨rfl, rfl, rfl, rfl, trivial⟩ ?_
 refine go_seq ?_
 refine go_region rfl ?_
 refine go_pure0 Tk rfl rfl rfl ?_
 refine go_pure0 Tk rfl rfl rfl ?_
 refine go_nil ?_
 refine go_env [(0, _), (2, _), (4, _), (9, _), (54, _)] ⟨rfl, rfl, rfl, rfl, rfl, trivial⟩ ?_
 refine go_condD rfl ?_ ?_
 ·intro hc1
  obtain ⟨k, e1, e2, e3⟩ := idx_yes hc1
  refine go_re 9 (.int .i64 (k : Int)) (by show some (Value.int _ _) = _; rw [e2]) ?_
  refine go_ol_addr (xs := by_) (by repeat constructor) (by omega) (fun b2 hA => ?_); subst hA
  refine go_seq ?_
  refine go_region rfl ?_
  refine go_pure0 Tk rfl rfl rfl ?_
  refine go_pure0 Tk rfl rfl rfl ?_
  refine go_pure0 Tk rfl rfl rfl ?_
  refine go_val0 rfl (load_val (cs := [.slice (some ⟨b2, 0, none⟩) by_.length c2]) Tk rfl rfl rfl (at_one (by repeat constructor) (hc_tail (j := 1) rfl (by show 0 + 33 = _; omega))) rfl) rfl ?_
  refine go_pure0 Tk rfl rfl rfl ?_
  refine go_val0 rfl (idx_val Tk rfl rfl rfl rfl rfl (by omega)) rfl ?_
  refine go_val0 rfl (load_val (cs := [.int .u32 by_[k]]) Tk rfl rfl rfl (at_ol (fun y : Int => [.int .u32 y]) fc_int 0 (xs := by_) (by repeat constructor) (List.getElem?_eq_getElem (by omega)) rfl) rfl) rfl ?_
  refine go_pure0 Tk rfl rfl rfl ?_
  refine go_pure0 Tk rfl rfl rfl ?_
  refine go_pure0 Tk rfl rfl rfl ?_
  refine go_nil ?_
  refine go_fold [pt b 125 (hc (few) (is) [.slice A1 (many).length c1, .slice (some ⟨b2, 0, none⟩) (by_).length c2]), ol tTm 58 A1 c1 (many), ol tU 22 (some ⟨b2, 0, none⟩) c2 (by_)] (heldO b (σ) (m + 1)) (by repeat constructor) (fun _ _ q => heldO_mk (held_more hk) q) ?_
  refine go_env [(6, _)] ⟨rfl, trivial⟩ ?_
  refine go_ret ⟨rfl, rfl⟩ _ _ (res1 (by rfl) (.tmp rfl)) ⟨σ, by rw [show σ x = some by_[k] by rw [← f3, e1]; simp [List.getElem?_eq_getElem (show k < by_.length by omega)]]; simp, fun hs => upd_same (hs.resolve_left (by rw [← f3, e1]; simp [List.getElem?_eq_getElem (show k < by_.length by omega)])), rfl, rfl⟩ (by repeat constructor) (by repeat constructor)
 ·intro hc1
  have e1 := idx_no hc1
  refine go_skip ?_
  refine go_seq ?_
  refine go_draw ([cl bt 0 [.bool true, .int .u32 x]]) ([pt b 125 (hc few is [.slice A1 many.length c1, .slice A2 by_.length c2])]) [5, 6, 12] (SL.pre [(1, 0), (1, 1), (1, 2), (1, 3), (1, 4), (1, 9), (1, 10), (1, 11), (1, 13), (2, 5), (2, 6), (2, 12)] (.two (SL.pre [(0, 7)] (.two (SL.pre [(0, 8), (0, 14), (0, 15), (1, 16), (1, 17), (0, 18), (1, 19), (1, 20), (0, 21)] .nil) (SL.pre [(0, 14), (0, 8), (0, 15), (1, 16), (1, 17), (0, 18), (1, 19), (1, 20), (0, 21)] .nil))) (SL.pre [(0, 14), (0, 7), (0, 8), (0, 15), (1, 16), (1, 17), (0, 18), (1, 19), (1, 20), (0, 21)] .nil))) mixed rfl (by kernel_rfl) ?_
  refine go_pure1 Tk rfl rfl rfl ?_
  refine go_pure1 Tk rfl rfl rfl ?_
  refine go_pure1 Tk rfl rfl rfl ?_
  refine go_pure1 Tk rfl rfl rfl ?_
  refine go_pure1 Tk rfl rfl rfl ?_
  refine go_pure1 Tk rfl rfl rfl ?_
  refine go_pure1 Tk rfl rfl rfl ?_
  refine go_pure1 Tk rfl rfl rfl ?_
  refine go_pure1 Tk rfl rfl rfl ?_
  refine go_val2a rfl (load_val (cs := [.slice A1 many.length c1]) Tk rfl rfl rfl (at_one (by repeat constructor) (hc_tail (j := 0) rfl (by show 0 + 32 = _; omega))) rfl) rfl ?_
  refine go_val2a rfl (ldv Tk rfl rfl rfl) rfl ?_
  refine go_val2a rfl (load_val (cs := [.slice A2 by_.length c2]) Tk rfl rfl rfl (at_one (by repeat constructor) (hc_tail (j := 1) rfl (by show 0 + 33 = _; omega))) rfl) rfl ?_
  refine go_two ?_ ?_
  ·skip
   refine go_bslice Tk rfl rfl rfl rfl rfl rfl rfl rfl (fun _ _ => satA) ?_
   intro bm
   refine go_two ?_ ?_
   ·skip
    refine go_append1 (T := tTm) (xs := many) Tk (⟨true, x⟩ : Tm) rfl rfl rfl rfl rfl rfl rfl rfl rfl (by repeat constructor) (by repeat constructor) rfl ent_tm (by omega) (fun _ _ _ => satS (by repeat constructor) (by repeat constructor)) ?_
    intro A3 c3
    refine go_bslice Tk rfl rfl rfl rfl rfl rfl rfl rfl (fun _ _ => satA) ?_
    intro bb
    refine go_append1 (T := tU) (xs := by_) Tk n rfl rfl rfl rfl rfl rfl rfl rfl rfl (by repeat constructor) (by repeat constructor) rfl ent_int (by omega) (fun _ _ _ => satS (by repeat constructor) (by repeat constructor)) ?_
    intro A4 c4
    refine go_pure1 Tk rfl rfl rfl ?_
    refine go_pure1 Tk rfl rfl rfl ?_
    refine go_store Tk rfl rfl rfl rfl rfl rfl (by repeat constructor) rfl rfl (hc_put_a (by show 0 + 32 = _; omega)) (fun h => nomatch (Eq.symm h).trans (show _ = false by kernel_rfl)) ?_
    refine go_pure1 Tk rfl rfl rfl ?_
    refine go_pure1 Tk rfl rfl rfl ?_
    refine go_store Tk rfl rfl rfl rfl rfl rfl (by repeat constructor) rfl rfl (hc_put_b (by show 0 + 33 = _; omega)) (fun h => nomatch (Eq.symm h).trans (show _ = false by kernel_rfl)) ?_
    refine go_nil ?_
    refine go_fold [pt b 125 (hc (few) (is) [.slice A3 (many ++ [(⟨true, x⟩ : Tm)]).length c3, .slice A4 (by_ ++ [n]).length c4]), ol tTm 58 A3 c3 (many ++ [(⟨true, x⟩ : Tm)]), ol tU 22 A4 c4 (by_ ++ [n])] (heldO b (upd σ x n) (m + 1)) (by repeat constructor) (fun _ _ q => heldO_mk (held_new hk (by omega) e1 n) q) ?_
    refine go_env [] trivial ?_
    refine go_seq ?_
    refine go_region rfl ?_
    refine go_pure0 Tk rfl rfl rfl ?_
    refine go_nil ?_
    refine go_env [(6, _)] ⟨rfl, trivial⟩ ?_
    refine go_ret ⟨rfl, rfl⟩ _ _ (res1 (by rfl) (.tmp rfl)) ⟨upd σ x n, by rw [show σ x = none by rw [← f3, e1]; rfl]; simp, fun _ => rfl, rfl, rfl⟩ (by repeat constructor) (by repeat constructor)
   refine go_bslice Tk rfl rfl rfl rfl rfl rfl rfl rfl (fun _ _ => satA) ?_
   intro bb
   refine go_append1 (T := tTm) (xs := many) Tk (⟨true, x⟩ : Tm) rfl rfl rfl rfl rfl rfl rfl rfl rfl (by repeat constructor) (by repeat constructor) rfl ent_tm (by omega) (fun _ _ _ => satS (by repeat constructor) (by repeat constructor)) ?_
   intro A3 c3
   refine go_append1 (T := tU) (xs := by_) Tk n rfl rfl rfl rfl rfl rfl rfl rfl rfl (by repeat constructor) (by repeat constructor) rfl ent_int (by omega) (fun _ _ _ => satS (by repeat constructor) (by repeat constructor)) ?_
   intro A4 c4
   refine go_pure1 Tk rfl rfl rfl ?_
   refine go_pure1 Tk rfl rfl rfl ?_
   refine go_store Tk rfl rfl rfl rfl rfl rfl (by repeat constructor) rfl rfl (hc_put_a (by show 0 + 32 = _; omega)) (fun h => nomatch (Eq.symm h).trans (show _ = false by kernel_rfl)) ?_
   refine go_pure1 Tk rfl rfl rfl ?_
   refine go_pure1 Tk rfl rfl rfl ?_
   refine go_store Tk rfl rfl rfl rfl rfl rfl (by repeat constructor) rfl rfl (hc_put_b (by show 0 + 33 = _; omega)) (fun h => nomatch (Eq.symm h).trans (show _ = false by kernel_rfl)) ?_
   refine go_nil ?_
   refine go_fold [pt b 125 (hc (few) (is) [.slice A3 (many ++ [(⟨true, x⟩ : Tm)]).length c3, .slice A4 (by_ ++ [n]).length c4]), ol tTm 58 A3 c3 (many ++ [(⟨true, x⟩ : Tm)]), ol tU 22 A4 c4 (by_ ++ [n])] (heldO b (upd σ x n) (m + 1)) (by repeat constructor) (fun _ _ q => heldO_mk (held_new hk (by omega) e1 n) q) ?_
   refine go_env [] trivial ?_
   refine go_seq ?_
   refine go_region rfl ?_
   refine go_pure0 Tk rfl rfl rfl ?_
   refine go_nil ?_
   refine go_env [(6, _)] ⟨rfl, trivial⟩ ?_
   refine go_ret ⟨rfl, rfl⟩ _ _ (res1 (by rfl) (.tmp rfl)) ⟨upd σ x n, by rw [show σ x = none by rw [← f3, e1]; rfl]; simp, fun _ => rfl, rfl, rfl⟩ (by repeat constructor) (by repeat constructor)
  refine go_bslice Tk rfl rfl rfl rfl rfl rfl rfl rfl (fun _ _ => satA) ?_
  intro bb
  refine go_bslice Tk rfl rfl rfl rfl rfl rfl rfl rfl (fun _ _ => satA) ?_
  intro bm
  refine go_append1 (T := tTm) (xs := many) Tk (⟨true, x⟩ : Tm) rfl rfl rfl rfl rfl rfl rfl rfl rfl (by repeat constructor) (by repeat constructor) rfl ent_tm (by omega) (fun _ _ _ => satS (by repeat constructor) (by repeat constructor)) ?_
  intro A3 c3
  refine go_append1 (T := tU) (xs := by_) Tk n rfl rfl rfl rfl rfl rfl rfl rfl rfl (by repeat constructor) (by repeat constructor) rfl ent_int (by omega) (fun _ _ _ => satS (by repeat constructor) (by repeat constructor)) ?_
  intro A4 c4
  refine go_pure1 Tk rfl rfl rfl ?_
  refine go_pure1 Tk rfl rfl rfl ?_
  refine go_store Tk rfl rfl rfl rfl rfl rfl (by repeat constructor) rfl rfl (hc_put_a (by show 0 + 32 = _; omega)) (fun h => nomatch (Eq.symm h).trans (show _ = false by kernel_rfl)) ?_
  refine go_pure1 Tk rfl rfl rfl ?_
  refine go_pure1 Tk rfl rfl rfl ?_
  refine go_store Tk rfl rfl rfl rfl rfl rfl (by repeat constructor) rfl rfl (hc_put_b (by show 0 + 33 = _; omega)) (fun h => nomatch (Eq.symm h).trans (show _ = false by kernel_rfl)) ?_
  refine go_nil ?_
  refine go_fold [pt b 125 (hc (few) (is) [.slice A3 (many ++ [(⟨true, x⟩ : Tm)]).length c3, .slice A4 (by_ ++ [n]).length c4]), ol tTm 58 A3 c3 (many ++ [(⟨true, x⟩ : Tm)]), ol tU 22 A4 c4 (by_ ++ [n])] (heldO b (upd σ x n) (m + 1)) (by repeat constructor) (fun _ _ q => heldO_mk (held_new hk (by omega) e1 n) q) ?_
  refine go_env [] trivial ?_
  refine go_seq ?_
  refine go_region rfl ?_
  refine go_pure0 Tk rfl rfl rfl ?_
  refine go_nil ?_
  refine go_env [(6, _)] ⟨rfl, trivial⟩ ?_
  refine go_ret ⟨rfl, rfl⟩ _ _ (res1 (by rfl) (.tmp rfl)) ⟨upd σ x n, by rw [show σ x = none by rw [← f3, e1]; rfl]; simp, fun _ => rfl, rfl, rfl⟩ (by repeat constructor) (by repeat constructor)

end Go.Proofs.YtkhddfknpegpmaaGreat.SL

/- Contracts of functions of the program (Matcht): what each call comes to, for the laws' proofs. -/
set_option linter.unusedVariables false
set_option linter.unusedSimpArgs false
namespace Go.Proofs.YtkhddfknpegpmaaGreat.SL
open Go 

theorem stands (b : Nat) (σ : Int → Option Int) (m : Nat) (t : Tm) (n : Int) (hv : t.v = true) (h0 : 0 ≤ t.n) (hm : m ≤ 1000000) : Spec Tryz.prog 84 #[.pointer (some ⟨b, 0, none⟩), .agg #[.bool t.v, .int .u32 t.n], .int .u32 n] [] [heldO b σ m]
    (fun v Ps' Os' => ∃ σ', v = .bool (decide (σ t.n = none ∨ σ t.n = some n)) ∧ ((σ t.n = none ∨ σ t.n = some n) → σ' = upd σ t.n n) ∧ Ps' = [] ∧ Os' = [heldO b σ' (m + 1)]) := by
  obtain ⟨v, x⟩ := t
  simp only at hv h0 ⊢
  subst hv
  by_cases hx : 16 ≤ x
  · exact standsBig b σ m x n hx hm
  · obtain ⟨j, rfl⟩ := Int.eq_ofNat_of_zero_le h0
    exact standsSmall b σ m j n (by omega)

set_option maxHeartbeats 2000000 in
set_option maxRecDepth 20000 in
theorem atomsMatch (a : Am) (AA : Option Addr) (ac : Nat) (f : Fa) (FA : Option Addr) (fc : Nat) (ha : ∀ t ∈ a.a, 0 ≤ t.n) (hn : a.a.length ≤ 1000000) :
    Spec Tryz.prog 65 #[.agg #[.int .u32 a.p, .slice AA a.a.length ac], .agg #[.int .u32 f.p, .slice FA f.a.length fc]] [sl tTm AA ac a.a, sl tU FA fc f.a] [] (fun v Ps' Os' => v = .bool (mtch a f) ∧ Ps' = [] ∧ Os' = []) := by
 refine spec_of (fn := Tryz.f65) (args := [.agg #[.int .u32 a.p, .slice AA a.a.length ac], .agg #[.int .u32 f.p, .slice FA f.a.length fc]]) 53 Tryz.func65 rfl (by kernel_rfl) Tryz.ntmps65 (Nat.le_of_ble_eq_true rfl) (fun w0 hp0 hf0 => ?_)
 refine go_seq ?_
 refine go_region rfl ?_
 refine go_box Tk rfl rfl rfl rfl (by rfl) rfl rfl (fun h => nomatch h) ?_
 intro b1
 refine go_box Tk rfl rfl rfl rfl (by rfl) rfl rfl (fun h => nomatch h) ?_
 intro b2
 refine go_pure0 Tk rfl rfl rfl ?_
 refine go_nil ?_
 refine go_env [(2, _), (3, _)] ⟨rfl, rfl, trivial⟩ ?_
 refine go_seq ?_
 refine go_seq ?_
 refine go_len (xs := a.a) (by repeat constructor) (fun la ma => ?_)
 refine go_len (xs := f.a) (by repeat constructor) (fun lf mf => ?_)
 refine go_region rfl ?_
 refine go_pure0 Tk rfl rfl rfl ?_
 refine go_val0 rfl (ldv Tk rfl rfl rfl) rfl ?_
 refine go_pure0 Tk rfl rfl rfl ?_
 refine go_val0 rfl (ldv Tk rfl rfl rfl) rfl ?_
 refine go_pure0 Tk rfl rfl rfl ?_
 refine go_pure0 Tk rfl rfl rfl ?_
 refine go_known 14 rfl ?_ ?_
 ·intro g1
  (try simp only [decide_eq_true_eq, decide_eq_false_iff_not, Bool.not_eq_true', Bool.not_eq_false', Bool.not_eq_eq_eq_not, Bool.not_true, Bool.not_false, Int.not_lt, Int.not_le, beq_iff_eq, beq_eq_false_iff_ne, ne_eq] at g1)
  refine go_skip0 rfl rfl ?_
  refine go_skip0 rfl rfl ?_
  refine go_skip0 rfl rfl ?_
  refine go_skip0 rfl rfl ?_
  refine go_skip0 rfl rfl ?_
  refine go_skip0 rfl rfl ?_
  refine go_skip0 rfl rfl ?_
  refine go_pure0 Tk rfl rfl rfl ?_
  refine go_nil ?_
  refine go_env [(2, _), (3, _), (22, _)] ⟨rfl, rfl, rfl, trivial⟩ ?_
  refine go_cond_t rfl ?_
  refine go_seq ?_
  refine go_region rfl ?_
  refine go_pure0 Tk rfl rfl rfl ?_
  refine go_nil ?_
  refine go_env [(4, _)] ⟨rfl, trivial⟩ ?_
  refine go_ret ⟨rfl, rfl⟩ _ _ (res1 (by rfl) (.tmp rfl)) ⟨by rw [mtch_no (fun h _ => g1 h)], rfl, rfl⟩ (by repeat constructor) (by repeat constructor)
 ·intro g1
  (try simp only [decide_eq_true_eq, decide_eq_false_iff_not, Bool.not_eq_true', Bool.not_eq_false', Bool.not_eq_eq_eq_not, Bool.not_true, Bool.not_false, Int.not_lt, Int.not_le, beq_iff_eq, beq_eq_false_iff_ne, ne_eq] at g1)
  refine go_pure0 Tk rfl rfl rfl ?_
  refine go_val0 rfl (ldv Tk rfl rfl rfl) rfl ?_
  refine go_pure0 Tk rfl rfl rfl ?_
  refine go_pure0 Tk rfl rfl rfl ?_
  refine go_val0 rfl (ldv Tk rfl rfl rfl) rfl ?_
  refine go_pure0 Tk rfl rfl rfl ?_
  refine go_pure0 Tk rfl rfl rfl ?_
  refine go_pure0 Tk rfl rfl rfl ?_
  refine go_nil ?_
  refine go_env [(2, _), (3, _), (22, _)] ⟨rfl, rfl, rfl, trivial⟩ ?_
  refine go_cond rfl ?_ ?_
  ·intro g2
   (try simp only [decide_eq_true_eq, decide_eq_false_iff_not, Bool.not_eq_true', Bool.not_eq_false', Bool.not_eq_eq_eq_not, Bool.not_true, Bool.not_false, Int.not_lt, Int.not_le, beq_iff_eq, beq_eq_false_iff_ne, ne_eq] at g2)
   refine go_seq ?_
   refine go_region rfl ?_
   refine go_pure0 Tk rfl rfl rfl ?_
   refine go_nil ?_
   refine go_env [(4, _)] ⟨rfl, trivial⟩ ?_
   refine go_ret ⟨rfl, rfl⟩ _ _ (res1 (by rfl) (.tmp rfl)) ⟨by rw [mtch_no (fun _ h => g2 (by exact_mod_cast h))], rfl, rfl⟩ (by repeat constructor) (by repeat constructor)
  ·intro g2
   (try simp only [decide_eq_true_eq, decide_eq_false_iff_not, Bool.not_eq_true', Bool.not_eq_false', Bool.not_eq_eq_eq_not, Bool.not_true, Bool.not_false, Int.not_lt, Int.not_le, beq_iff_eq, beq_eq_false_iff_ne, ne_eq] at g2)
   refine go_skip ?_
   refine go_seq ?_
   have hl : a.a.length = f.a.length := by omega
   refine go_region rfl ?_
   refine go_alloc Tk rfl rfl rfl (by rfl) rfl rfl (fun h => nomatch h) ?_
   intro bh
   refine go_own_nil tTm 58 none ?_
   refine go_own_nil tU 22 none ?_
   refine go_fold [pt bh 125 (hc (List.replicate 16 0) (List.replicate 16 false) [.slice none 0 0, .slice none 0 0]), ol tTm 58 none 0 [], ol tU 22 none 0 []] (heldO bh (fun _ => none) 0) (by repeat constructor) (fun _ _ q => heldO_mk held_zero q) ?_
   refine go_nil ?_
   refine go_env [(2, _), (3, _), (5, _)] ⟨rfl, rfl, rfl, trivial⟩ ?_
   refine go_seq ?_
   refine go_seq ?_
   refine go_region rfl ?_
   refine go_pure0 Tk rfl rfl rfl ?_
   refine go_val0 rfl (ldv Tk rfl rfl rfl) rfl ?_
   refine go_pure0 Tk rfl rfl rfl ?_
   refine go_pure0 Tk rfl rfl rfl ?_
   refine go_nil ?_
   refine go_env [(3, _), (5, _), (24, _), (25, _), (26, _)] ⟨rfl, rfl, rfl, rfl, rfl, trivial⟩ ?_
   refine go_block ?_
   refine go_loop' (X := Nat × (Int → Option Int)) (fun x => [(26, .int .i64 (x.1 : Int))]) [(3, _), (5, _), (24, _), (25, _)] (fun x => [heldO bh x.2 x.1]) (fun x => x.1 ≤ a.a.length ∧ inv x.2 a.a f.a x.1) (fun x => a.a.length - x.1) ((0, fun _ => none)) ⟨rfl, rfl, rfl, rfl, rfl, trivial⟩ (by repeat constructor) ⟨by omega, inv_zero _ _⟩ ?_
   intro ⟨k, σ⟩ ⟨hk, hi⟩
   simp only at hk hi ⊢
   refine go_seq ?_
   refine go_region rfl ?_
   refine go_pure0 Tk rfl rfl rfl ?_
   refine go_nil ?_
   refine go_env [(3, _), (5, _), (24, _), (25, _), (26, _), (27, _)] ⟨rfl, rfl, rfl, rfl, rfl, rfl, trivial⟩ ?_
   refine go_seq ?_
   refine go_condD rfl ?_ ?_
   ·intro c1
    refine go_skip ?_
    refine go_seq ?_
    refine go_block ?_
    refine go_seq ?_
    refine go_elem_tm (xs := a.a) (by repeat constructor) (k) (List.getElem?_eq_getElem (by omega)) (fun b5 o5 hA => ?_); cases hA
    refine go_region rfl ?_
    refine go_pure0 Tk rfl rfl rfl ?_
    refine go_val0 rfl (idx_val Tk rfl rfl rfl rfl rfl (by omega)) rfl ?_
    refine go_val0 rfl (ldv Tk rfl rfl rfl) rfl ?_
    refine go_alloc Tk rfl rfl rfl (by rfl) rfl rfl (fun h => nomatch h) ?_
    intro b3
    refine go_pure0 Tk rfl rfl rfl ?_
    refine go_store Tk rfl rfl rfl rfl rfl rfl (by repeat constructor) rfl rfl (by rfl) (fun h => nomatch h) ?_
    refine go_nil ?_
    refine go_env [(3, _), (5, _), (6, _), (7, _), (24, _), (25, _), (26, _)] ⟨rfl, rfl, rfl, rfl, rfl, rfl, rfl, trivial⟩ ?_
    refine go_seq ?_
    refine go_region rfl ?_
    refine go_pure0 Tk rfl rfl rfl ?_
    refine go_nil ?_
    refine go_env [(3, _), (5, _), (6, _), (7, _), (8, _), (24, _), (25, _), (26, _)] ⟨rfl, rfl, rfl, rfl, rfl, rfl, rfl, rfl, trivial⟩ ?_
    refine go_seq ?_
    refine go_seq ?_
    refine go_elem_int (xs := f.a) (by repeat constructor) (k) (List.getElem?_eq_getElem (by omega)) (fun b6 o6 hA => ?_); cases hA
    refine go_draw'  [0, 2, 5] (SL.pre [(1, 1), (1, 3), (2, 0), (2, 2), (1, 4), (2, 5), (0, 6)] .nil) mixed rfl (by kernel_rfl) ?_
    refine go_pure1 Tk rfl rfl rfl ?_
    refine go_pure1 Tk rfl rfl rfl ?_
    refine go_val2a rfl (ldv Tk rfl rfl rfl) rfl ?_
    refine go_val2a rfl (ldv Tk rfl rfl rfl) rfl ?_
    refine go_val1 rfl (idx_val Tk rfl rfl rfl rfl rfl (by omega)) rfl ?_
    refine go_val2a rfl (ldv Tk rfl rfl rfl) rfl ?_
    refine go_call (atomsKind a.a[k] f.a[k]) rfl rfl (by rfl) rfl (by repeat constructor) (by repeat constructor) (fun h => nomatch h) ?_
    rintro _ _ _ ⟨rfl, rfl, rfl⟩
    refine go_nil ?_
    refine go_env [(3, _), (5, _), (6, _), (7, _), (8, _), (24, _), (25, _), (26, _), (37, _)] ⟨rfl, rfl, rfl, rfl, rfl, rfl, rfl, rfl, rfl, trivial⟩ ?_
    refine go_block ?_
    refine go_seq ?_
    refine go_block ?_
    refine go_seq ?_
    refine go_block ?_
    refine go_seq ?_
    refine go_seq ?_
    refine go_seq ?_
    by_cases hv : a.a[k].v = true
    ·skip
     refine go_re 37 (.int .i64 2) (by show some (Value.int _ _) = _; rw [hv]; rfl) ?_
     refine go_region rfl ?_
     refine go_pure0 Tk rfl rfl rfl ?_
     refine go_re 39 (.bool true) rfl ?_
     refine go_pure0 Tk rfl rfl rfl ?_
     refine go_nil ?_
     refine go_env [(3, _), (5, _), (6, _), (7, _), (8, _), (24, _), (25, _), (26, _), (37, _), (38, _)] ⟨rfl, rfl, rfl, rfl, rfl, rfl, rfl, rfl, rfl, rfl, trivial⟩ ?_
     refine go_cond_t rfl ?_
     refine go_exit rfl ?_
     refine go_seq ?_
     refine go_draw'  [0, 2, 5] (SL.pre [(1, 1), (1, 3), (2, 0), (2, 2), (1, 4), (2, 5), (0, 6), (1, 7)] .nil) mixed rfl (by kernel_rfl) ?_
     refine go_pure1 Tk rfl rfl rfl ?_
     refine go_pure1 Tk rfl rfl rfl ?_
     refine go_val2a rfl (ldv Tk rfl rfl rfl) rfl ?_
     refine go_val2a rfl (ldv Tk rfl rfl rfl) rfl ?_
     refine go_val1 rfl (idx_val Tk rfl rfl rfl rfl rfl (by omega)) rfl ?_
     refine go_val2a rfl (ldv Tk rfl rfl rfl) rfl ?_
     refine go_call (stands bh σ k a.a[k] f.a[k] hv (ha _ (List.getElem_mem _)) (by omega)) rfl rfl (by rfl) rfl (by repeat constructor) (by repeat constructor) (fun h => nomatch h) ?_
     rintro _ _ _ ⟨σ', rfl, hσ, rfl, rfl⟩
     refine go_pure1 Tk rfl rfl rfl ?_
     refine go_nil ?_
     refine go_env [(3, _), (5, _), (24, _), (25, _), (26, _), (49, _)] ⟨rfl, rfl, rfl, rfl, rfl, rfl, trivial⟩ ?_
     refine go_cond rfl ?_ ?_
     ·intro c2
      (try simp only [decide_eq_true_eq, decide_eq_false_iff_not, Bool.not_eq_true', Bool.not_eq_false', Bool.not_eq_eq_eq_not, Bool.not_true, Bool.not_false, Int.not_lt, Int.not_le, beq_iff_eq, beq_eq_false_iff_ne, ne_eq] at c2)
      simp only [not_or] at c2
      refine go_seq ?_
      refine go_region rfl ?_
      refine go_pure0 Tk rfl rfl rfl ?_
      refine go_nil ?_
      refine go_env [(4, _)] ⟨rfl, trivial⟩ ?_
      refine go_ret ⟨rfl, rfl⟩ _ _ (res1 (by rfl) (.tmp rfl)) ⟨by rw [mtch_var_no hi (by omega) (by omega) hv (ha _ (List.getElem_mem _)) (by simpa using c2)], rfl, rfl⟩ (by repeat constructor) (by repeat constructor)
     ·intro c2
      (try simp only [decide_eq_true_eq, decide_eq_false_iff_not, Bool.not_eq_true', Bool.not_eq_false', Bool.not_eq_eq_eq_not, Bool.not_true, Bool.not_false, Int.not_lt, Int.not_le, beq_iff_eq, beq_eq_false_iff_ne, ne_eq] at c2)
      have c2 : σ a.a[k].n = none ∨ σ a.a[k].n = some f.a[k] := by simpa using c2
      rw [hσ c2]
      refine go_skip ?_
      refine go_blk ?_
      refine go_seq ?_
      refine go_region rfl ?_
      refine go_pure0 Tk rfl rfl rfl ?_
      refine go_nil ?_
      refine go_env [(3, _), (5, _), (8, _), (24, _), (25, _), (26, _)] ⟨rfl, rfl, rfl, rfl, rfl, rfl, trivial⟩ ?_
      refine go_exit rfl ?_
      refine go_seq ?_
      refine go_region rfl ?_
      refine go_pure0 Tk rfl rfl rfl ?_
      refine go_pure0 Tk rfl rfl rfl ?_
      refine go_nil ?_
      refine go_env [(3, _), (5, _), (24, _), (25, _), (26, _), (51, _)] ⟨rfl, rfl, rfl, rfl, rfl, rfl, trivial⟩ ?_
      refine go_cond_f rfl ?_
      refine go_skip ?_
      refine go_blk ?_
      refine go_region rfl ?_
      refine go_pure0 Tk rfl rfl rfl ?_
      refine go_pure0 Tk rfl rfl rfl ?_
      refine go_nil ?_
      refine go_i64 26 rfl (by omega) (by omega) ?_
      refine go_back (k + 1, upd σ a.a[k].n f.a[k]) ⟨rfl, rfl, rfl, rfl, rfl, trivial⟩ (by repeat constructor) (by repeat constructor) ⟨by show k + 1 ≤ _; omega, inv_var hi (by omega) (by omega) hv (ha _ (List.getElem_mem _)) c2⟩ (by show a.a.length - (k + 1) < a.a.length - k; omega)
    ·skip
     have hv : a.a[k].v = false := by simpa using hv
     refine go_re 37 (.int .i64 (if a.a[k].n = f.a[k] then 1 else 0)) (by show some (Value.int _ _) = _; rw [hv]; rfl) ?_
     refine go_region rfl ?_
     refine go_pure0 Tk rfl rfl rfl ?_
     refine go_re 39 (.bool false) (by show some (Value.bool _) = _; split <;> rfl) ?_
     refine go_pure0 Tk rfl rfl rfl ?_
     refine go_nil ?_
     refine go_env [(3, _), (5, _), (6, _), (7, _), (8, _), (24, _), (25, _), (26, _), (37, _), (38, _)] ⟨rfl, rfl, rfl, rfl, rfl, rfl, rfl, rfl, rfl, rfl, trivial⟩ ?_
     refine go_cond_f rfl ?_
     refine go_skip ?_
     refine go_seq ?_
     by_cases hs : a.a[k].n = f.a[k]
     ·skip
      refine go_re 37 (.int .i64 1) (by show some (Value.int _ _) = _; rw [if_pos hs]) ?_
      refine go_region rfl ?_
      refine go_pure0 Tk rfl rfl rfl ?_
      refine go_re 41 (.bool true) rfl ?_
      refine go_pure0 Tk rfl rfl rfl ?_
      refine go_nil ?_
      refine go_env [(3, _), (5, _), (8, _), (24, _), (25, _), (26, _), (40, _)] ⟨rfl, rfl, rfl, rfl, rfl, rfl, rfl, trivial⟩ ?_
      refine go_cond_t rfl ?_
      refine go_exit rfl ?_
      refine go_seq ?_
      refine go_region rfl ?_
      refine go_pure0 Tk rfl rfl rfl ?_
      refine go_nil ?_
      refine go_env [(3, _), (5, _), (8, _), (24, _), (25, _), (26, _)] ⟨rfl, rfl, rfl, rfl, rfl, rfl, trivial⟩ ?_
      refine go_exit rfl ?_
      refine go_seq ?_
      refine go_region rfl ?_
      refine go_pure0 Tk rfl rfl rfl ?_
      refine go_pure0 Tk rfl rfl rfl ?_
      refine go_nil ?_
      refine go_env [(3, _), (5, _), (24, _), (25, _), (26, _), (51, _)] ⟨rfl, rfl, rfl, rfl, rfl, rfl, trivial⟩ ?_
      refine go_cond_f rfl ?_
      refine go_skip ?_
      refine go_blk ?_
      refine go_region rfl ?_
      refine go_pure0 Tk rfl rfl rfl ?_
      refine go_pure0 Tk rfl rfl rfl ?_
      refine go_nil ?_
      refine go_i64 26 rfl (by omega) (by omega) ?_
      refine go_imp (heldO bh σ k) [heldO bh σ (k + 1)] (by repeat constructor) (fun _ _ q => sep_one (heldO_more q)) ?_
      refine go_back (k + 1, σ) ⟨rfl, rfl, rfl, rfl, rfl, trivial⟩ (by repeat constructor) (by repeat constructor) ⟨by show k + 1 ≤ _; omega, inv_sym hi (by omega) (by omega) hv hs⟩ (by show a.a.length - (k + 1) < a.a.length - k; omega)
     ·skip
      refine go_re 37 (.int .i64 0) (by show some (Value.int _ _) = _; rw [if_neg hs]) ?_
      refine go_region rfl ?_
      refine go_pure0 Tk rfl rfl rfl ?_
      refine go_re 41 (.bool false) rfl ?_
      refine go_pure0 Tk rfl rfl rfl ?_
      refine go_nil ?_
      refine go_env [(3, _), (5, _), (8, _), (24, _), (25, _), (26, _), (40, _)] ⟨rfl, rfl, rfl, rfl, rfl, rfl, rfl, trivial⟩ ?_
      refine go_cond_f rfl ?_
      refine go_skip ?_
      refine go_exit rfl ?_
      refine go_seq ?_
      refine go_region rfl ?_
      refine go_pure0 Tk rfl rfl rfl ?_
      refine go_pure0 Tk rfl rfl rfl ?_
      refine go_nil ?_
      refine go_env [(3, _), (5, _), (24, _), (25, _), (26, _), (51, _)] ⟨rfl, rfl, rfl, rfl, rfl, rfl, trivial⟩ ?_
      refine go_cond_t rfl ?_
      refine go_seq ?_
      refine go_region rfl ?_
      refine go_pure0 Tk rfl rfl rfl ?_
      refine go_nil ?_
      refine go_env [(4, _)] ⟨rfl, trivial⟩ ?_
      refine go_ret ⟨rfl, rfl⟩ _ _ (res1 (by rfl) (.tmp rfl)) ⟨by rw [mtch_sym_no (by omega) (by omega) hv hs], rfl, rfl⟩ (by repeat constructor) (by repeat constructor)
   ·intro c1
    refine go_exit rfl ?_
    refine go_seq ?_
    refine go_region rfl ?_
    refine go_pure0 Tk rfl rfl rfl ?_
    refine go_nil ?_
    refine go_env [(4, _)] ⟨rfl, trivial⟩ ?_
    refine go_ret ⟨rfl, rfl⟩ _ _ (res1 (by rfl) (.tmp rfl)) ⟨by rw [mtch_yes g1 hl (by rw [show a.a.length = k by omega] at *; exact hi)], rfl, rfl⟩ (by repeat constructor) (by repeat constructor)

end Go.Proofs.YtkhddfknpegpmaaGreat.SL

/- Contracts of functions of the program (Matchr): what each call comes to, for the laws' proofs. -/
set_option linter.unusedVariables false
set_option linter.unusedSimpArgs false
namespace Go.Proofs.YtkhddfknpegpmaaGreat.SL
open Go 


end Go.Proofs.YtkhddfknpegpmaaGreat.SL

/- Contracts of functions of the program (Relq): what each call comes to, for the laws' proofs. -/
set_option linter.unusedVariables false
set_option linter.unusedSimpArgs false
namespace Go.Proofs.YtkhddfknpegpmaaGreat.SL
open Go 

/-- A set that is owned through and through. -/
def relD (b : Nat) (l : List Fa) : OA := OA.ex fun A : Option Addr => OA.ex fun c : Nat => OA.all [pt b 97 [.slice A l.length c], dl tFa 52 A c l]
theorem free_dl {α : Type} {T : Ty α} {e : Nat} {A : Option Addr} {c : Nat} {xs : List α} : (dl T e A c xs).free := fun _ _ _ h => h
theorem free_relD {b : Nat} {l : List Fa} : (relD b l).free := free_ex fun _ => free_ex fun _ => free_all fun B hB => by
  rcases List.mem_cons.1 hB with rfl | hB
  · exact free_pt
  · rw [List.mem_singleton.1 hB]; exact free_dl
theorem go_relD {C : Ctx} {k : List It} {E : Env} {Ps : List PA} {Os rr : List OA} {b : Nat} {l : List Fa} (h : Rem (relD b l) Os rr) (g : Go C k E Ps (relO b l :: rr)) : Go C k E Ps Os :=
  go_oex h fun A => go_oex .here fun c => go_oall .here (go_dl_ol (T := tFa) (A := A) (.there .here) (go_fold [pt b 97 [.slice A l.length c], ol tFa 52 A c l] (relO b l) (.cons (.there .here) (.cons .here .nil)) (fun _ _ q => relO_mk q) g))

set_option maxHeartbeats 2000000 in
set_option maxRecDepth 20000 in
theorem list1 (x : Fa) (A : Option Addr) (c : Nat) :
    Spec Tryz.prog 45 #[.agg #[.int .u32 x.p, .slice A x.a.length c]] [sl tU A c x.a, PA.tt] [] (fun v Ps' Os' => v = .bool true ∧ Ps' = [] ∧ Os' = []) := by
 refine spec_of (fn := Tryz.f45) (args := [.agg #[.int .u32 x.p, .slice A x.a.length c]]) 3 Tryz.func45 rfl (by kernel_rfl) Tryz.ntmps45 (Nat.le_of_ble_eq_true rfl) (fun w0 hp0 hf0 => ?_)
 refine go_seq ?_
 refine go_region rfl ?_
 refine go_box Tk rfl rfl rfl rfl (by rfl) rfl rfl (fun h => nomatch h) ?_
 intro b1
 refine go_pure0 Tk rfl rfl rfl ?_
 refine go_nil ?_
 refine go_env [] trivial ?_
 refine go_seq ?_
 refine go_region rfl ?_
 refine go_pure0 Tk rfl rfl rfl ?_
 refine go_nil ?_
 refine go_env [(2, _)] ⟨rfl, trivial⟩ ?_
 refine go_ret ⟨rfl, rfl⟩ _ _ (res1 (by rfl) (.tmp rfl)) ⟨rfl, rfl, rfl⟩ (by repeat constructor) (by repeat constructor)

set_option maxHeartbeats 2000000 in
set_option maxRecDepth 20000 in
theorem find1 (bA : Nat) (a : Am) (AA : Option Addr) (ac : Nat) (ha : ∀ t ∈ a.a, 0 ≤ t.n) (hm : a.a.length ≤ 1000000) (x : Fa) (A : Option Addr) (c : Nat) :
    Spec Tryz.prog 64 #[.agg #[.int .u32 x.p, .slice A x.a.length c], .pointer (some ⟨bA, 0, none⟩)] [sl tU A c x.a, PA.all [cl bA 0 [.int .u32 a.p, .slice AA a.a.length ac], sl tTm AA ac a.a]] [] (fun v Ps' Os' => v = .bool (mtch a x) ∧ Ps' = [] ∧ Os' = []) := by
 refine spec_of (fn := Tryz.f64) (args := [.agg #[.int .u32 x.p, .slice A x.a.length c], .pointer (some ⟨bA, 0, none⟩)]) 7 Tryz.func64 rfl (by kernel_rfl) Tryz.ntmps64 (Nat.le_of_ble_eq_true rfl) (fun w0 hp0 hf0 => ?_)
 refine go_seq ?_
 refine go_region rfl ?_
 refine go_box Tk rfl rfl rfl rfl (by rfl) rfl rfl (fun h => nomatch h) ?_
 intro b1
 refine go_pure0 Tk rfl rfl rfl ?_
 refine go_nil ?_
 refine go_env [(1, _), (2, _)] ⟨rfl, rfl, trivial⟩ ?_
 refine go_seq ?_
 refine go_pall (l := [_, _]) (by repeat constructor) ?_
 refine go_region rfl ?_
 refine go_val0 rfl (ldv Tk rfl rfl rfl) rfl ?_
 refine go_val0 rfl (ldv Tk rfl rfl rfl) rfl ?_
 refine go_call (atomsMatch a AA ac x A c ha hm) rfl rfl (by rfl) rfl (by repeat constructor) (by repeat constructor) (fun h => nomatch h) ?_
 rintro _ _ _ ⟨rfl, rfl, rfl⟩
 refine go_pure0 Tk rfl rfl rfl ?_
 refine go_nil ?_
 refine go_env [(3, _)] ⟨rfl, trivial⟩ ?_
 refine go_ret ⟨rfl, rfl⟩ _ _ (res1 (by rfl) (.tmp rfl)) ⟨rfl, rfl, rfl⟩ (by repeat constructor) (by repeat constructor)

set_option maxHeartbeats 2000000 in
set_option maxRecDepth 20000 in
theorem less1 (bS : Nat) (s : Option Addr) (ls : List Fa) (hr : rises ls) (hm : ls.length ≤ 50000000) (x : Fa) (A : Option Addr) (c : Nat) :
    Spec Tryz.prog 59 #[.agg #[.int .u32 x.p, .slice A x.a.length c], .pointer (some ⟨bS, 0, none⟩)] [sl tU A c x.a, PA.all [cl bS 0 [.pointer s], relN s ls]] [] (fun v Ps' Os' => v = .bool (!decide (x ∈ ls)) ∧ Ps' = [] ∧ Os' = []) := by
 refine spec_of (fn := Tryz.f59) (args := [.agg #[.int .u32 x.p, .slice A x.a.length c], .pointer (some ⟨bS, 0, none⟩)]) 8 Tryz.func59 rfl (by kernel_rfl) Tryz.ntmps59 (Nat.le_of_ble_eq_true rfl) (fun w0 hp0 hf0 => ?_)
 refine go_seq ?_
 refine go_region rfl ?_
 refine go_box Tk rfl rfl rfl rfl (by rfl) rfl rfl (fun h => nomatch h) ?_
 intro b1
 refine go_pure0 Tk rfl rfl rfl ?_
 refine go_nil ?_
 refine go_env [(1, _), (2, _)] ⟨rfl, rfl, trivial⟩ ?_
 refine go_seq ?_
 refine go_pall (l := [_, _]) (by repeat constructor) ?_
 refine go_region rfl ?_
 refine go_val0 rfl (ldv Tk rfl rfl rfl) rfl ?_
 refine go_val0 rfl (ldv Tk rfl rfl rfl) rfl ?_
 refine go_call (relHasN s ls x A c hr hm) rfl rfl (by rfl) rfl (by repeat constructor) (by repeat constructor) (fun h => nomatch h) ?_
 rintro _ _ _ ⟨rfl, rfl, rfl⟩
 refine go_pure0 Tk rfl rfl rfl ?_
 refine go_pure0 Tk rfl rfl rfl ?_
 refine go_nil ?_
 refine go_env [(3, _)] ⟨rfl, trivial⟩ ?_
 refine go_ret ⟨rfl, rfl⟩ _ _ (res1 (by rfl) (.tmp rfl)) ⟨rfl, rfl, rfl⟩ (by repeat constructor) (by repeat constructor)

set_option maxHeartbeats 2000000 in
set_option maxRecDepth 20000 in
theorem relListN (p0 : Option Addr) (l : List Fa) (hn : l.length ≤ 50000000) (hb : ∀ x ∈ l, x.a.length ≤ 100000) :
    Spec Tryz.prog 18 #[.pointer p0] [relN p0 l] [] (fun v Ps' Os' => ∃ A c, v = .slice A (l).length c ∧ Ps' = [] ∧ Os' = [dl tFa 52 A c (l)]) := by
 refine spec_of (fn := Tryz.f18) (args := [.pointer p0]) 5 Tryz.func18 rfl (by kernel_rfl) Tryz.ntmps18 (Nat.le_of_ble_eq_true rfl) (fun w0 hp0 hf0 => ?_)
 refine go_seq ?_
 refine go_region rfl ?_
 refine go_pure0 Tk rfl rfl rfl ?_
 refine go_nil ?_
 refine go_env [(0, _)] ⟨rfl, trivial⟩ ?_
 refine go_seq ?_
 refine go_ent PA.tt (fun _ _ => trivial) ?_
 refine go_region rfl ?_
 refine go_pure0 Tk rfl rfl rfl ?_
 refine go_call (relList_ p0 l 45 #[] (fun _ => true) PA.tt (fun x A c => list1 x A c) hn hb) rfl rfl (by rfl) rfl (by repeat constructor) (by repeat constructor) (fun h => nomatch h) ?_
 rintro _ _ _ ⟨A, c, rfl, rfl, rfl⟩
 rw [filt_all]
 refine go_pure0 Tk rfl rfl rfl ?_
 refine go_nil ?_
 refine go_env [(2, _)] ⟨rfl, trivial⟩ ?_
 refine go_ret ⟨rfl, rfl⟩ _ _ (res1 (by rfl) (.tmp rfl)) ⟨A, c, rfl, rfl, rfl⟩ (by repeat constructor) (by repeat constructor)

set_option maxHeartbeats 2000000 in
set_option maxRecDepth 20000 in
theorem relFindN (p0 : Option Addr) (l : List Fa) (a : Am) (AA : Option Addr) (ac : Nat) (ha : ∀ t ∈ a.a, 0 ≤ t.n) (hm : a.a.length ≤ 1000000) (hn : l.length ≤ 50000000) (hb : ∀ x ∈ l, x.a.length ≤ 100000) :
    Spec Tryz.prog 48 #[.pointer p0, .agg #[.int .u32 a.p, .slice AA a.a.length ac]] [relN p0 l, sl tTm AA ac a.a] [] (fun v Ps' Os' => ∃ A c, v = .slice A (l.filter (mtch a)).length c ∧ Ps' = [] ∧ Os' = [dl tFa 52 A c (l.filter (mtch a))]) := by
 refine spec_of (fn := Tryz.f48) (args := [.pointer p0, .agg #[.int .u32 a.p, .slice AA a.a.length ac]]) 8 Tryz.func48 rfl (by kernel_rfl) Tryz.ntmps48 (Nat.le_of_ble_eq_true rfl) (fun w0 hp0 hf0 => ?_)
 refine go_seq ?_
 refine go_region rfl ?_
 refine go_box Tk rfl rfl rfl rfl (by rfl) rfl rfl (fun h => nomatch h) ?_
 intro bA
 refine go_freeze_pt (b := bA) (by repeat constructor) ?_
 refine go_mkall [cl bA 0 [.int .u32 a.p, .slice AA a.a.length ac], sl tTm AA ac a.a] (by repeat constructor) ?_
 refine go_pure0 Tk rfl rfl rfl ?_
 refine go_nil ?_
 refine go_env [(0, _), (3, _)] ⟨rfl, rfl, trivial⟩ ?_
 refine go_seq ?_
 refine go_region rfl ?_
 refine go_pure0 Tk rfl rfl rfl ?_
 refine go_pure0 Tk rfl rfl rfl ?_
 refine go_call (relList_ p0 l 64 #[.pointer (some ⟨bA, 0, none⟩)] (mtch a) (PA.all [cl bA 0 [.int .u32 a.p, .slice AA a.a.length ac], sl tTm AA ac a.a]) (fun x A c => find1 bA a AA ac ha hm x A c) hn hb) rfl rfl (by rfl) rfl (by repeat constructor) (by repeat constructor) (fun h => nomatch h) ?_
 rintro _ _ _ ⟨A, c, rfl, rfl, rfl⟩
 refine go_pure0 Tk rfl rfl rfl ?_
 refine go_nil ?_
 refine go_env [(4, _)] ⟨rfl, trivial⟩ ?_
 refine go_ret ⟨rfl, rfl⟩ _ _ (res1 (by rfl) (.tmp rfl)) ⟨A, c, rfl, rfl, rfl⟩ (by repeat constructor) (by repeat constructor)

set_option maxHeartbeats 2000000 in
set_option maxRecDepth 20000 in
theorem relLessN (p0 : Option Addr) (l : List Fa) (s : Option Addr) (ls : List Fa) (hr : rises ls) (hm : ls.length ≤ 50000000) (hn : l.length ≤ 50000000) (hb : ∀ x ∈ l, x.a.length ≤ 100000) :
    Spec Tryz.prog 39 #[.pointer p0, .pointer s] [relN p0 l, relN s ls] [] (fun v Ps' Os' => ∃ b, v = .pointer (some ⟨b, 0, none⟩) ∧ Ps' = [] ∧ Os' = [relD b (less l ls)]) := by
 refine spec_of (fn := Tryz.f39) (args := [.pointer p0, .pointer s]) 10 Tryz.func39 rfl (by kernel_rfl) Tryz.ntmps39 (Nat.le_of_ble_eq_true rfl) (fun w0 hp0 hf0 => ?_)
 refine go_seq ?_
 refine go_region rfl ?_
 refine go_box Tk rfl rfl rfl rfl (by rfl) rfl rfl (fun h => nomatch h) ?_
 intro bS
 refine go_freeze_pt (b := bS) (by repeat constructor) ?_
 refine go_mkall [cl bS 0 [.pointer s], relN s ls] (by repeat constructor) ?_
 refine go_pure0 Tk rfl rfl rfl ?_
 refine go_nil ?_
 refine go_env [(0, _), (3, _)] ⟨rfl, rfl, trivial⟩ ?_
 refine go_seq ?_
 refine go_region rfl ?_
 refine go_pure0 Tk rfl rfl rfl ?_
 refine go_pure0 Tk rfl rfl rfl ?_
 refine go_call (relList_ p0 l 59 #[.pointer (some ⟨bS, 0, none⟩)] (fun x => !decide (x ∈ ls)) (PA.all [cl bS 0 [.pointer s], relN s ls]) (fun x A c => less1 bS s ls hr hm x A c) hn hb) rfl rfl (by rfl) rfl (by repeat constructor) (by repeat constructor) (fun h => nomatch h) ?_
 rintro _ _ _ ⟨A, c, rfl, rfl, rfl⟩
 rw [show l.filter (fun x => !decide (x ∈ ls)) = less l ls from rfl]
 refine go_val0 rfl (fun a w hp ho hf hs => build_val Tk rfl rfl rfl (by rfl) a w hf) rfl ?_
 refine go_box Tk rfl rfl rfl rfl (by rfl) rfl rfl (fun h => nomatch h) ?_
 intro bz
 refine go_pure0 Tk rfl rfl rfl ?_
 refine go_nil ?_
 refine go_fold [pt bz 97 [.slice A (less l ls).length c], dl tFa 52 A c (less l ls)] (relD bz (less l ls)) (by repeat constructor) (fun _ _ q => ⟨A, c, q⟩) ?_
 refine go_env [(4, _)] ⟨rfl, trivial⟩ ?_
 refine go_ret ⟨rfl, rfl⟩ _ _ (res1 (by rfl) (.tmp rfl)) ⟨bz, rfl, rfl, rfl⟩ (by repeat constructor) (by repeat constructor)

set_option maxHeartbeats 2000000 in
set_option maxRecDepth 20000 in
theorem relOf (A : Option Addr) (c : Nat) (l : List Fa) (hn : l.length ≤ 50000000) (hb : ∀ x ∈ l, x.a.length ≤ 100000) :
    Spec Tryz.prog 9 #[.slice A l.length c] [sl tFa A c l] [] (fun v Ps' Os' => ∃ b, v = .pointer (some ⟨b, 0, none⟩) ∧ Ps' = [] ∧ Os' = [relO b (fof l)]) := by
 refine spec_of (fn := Tryz.f9) (args := [.slice A l.length c]) 21 Tryz.func9 rfl (by kernel_rfl) Tryz.ntmps9 (Nat.le_of_ble_eq_true rfl) (fun w0 hp0 hf0 => ?_)
 refine go_seq ?_
 refine go_len (xs := l) (by repeat constructor) (fun l0 m0 => ?_)
 refine go_region rfl ?_
 refine go_pure0 Tk rfl rfl rfl ?_
 refine go_nil ?_
 refine go_env [(0, _)] ⟨rfl, trivial⟩ ?_
 refine go_seq ?_
 refine go_region rfl ?_
 refine go_call (relNew) rfl rfl (by rfl) rfl (by repeat constructor) (by repeat constructor) (fun h => nomatch h) ?_
 rintro _ _ _ ⟨br, rfl, rfl, rfl⟩
 refine go_pure0 Tk rfl rfl rfl ?_
 refine go_nil ?_
 refine go_env [(0, _), (3, _)] ⟨rfl, rfl, trivial⟩ ?_
 refine go_seq ?_
 refine go_region rfl ?_
 refine go_pure0 Tk rfl rfl rfl ?_
 refine go_pure0 Tk rfl rfl rfl ?_
 refine go_pure0 Tk rfl rfl rfl ?_
 refine go_nil ?_
 refine go_env [(0, _), (3, _), (4, _)] ⟨rfl, rfl, rfl, trivial⟩ ?_
 refine go_seq ?_
 refine go_seq ?_
 refine go_region rfl ?_
 refine go_pure0 Tk rfl rfl rfl ?_
 refine go_pure0 Tk rfl rfl rfl ?_
 refine go_pure0 Tk rfl rfl rfl ?_
 refine go_nil ?_
 refine go_env [(3, _), (4, _), (10, _), (11, _), (12, _)] ⟨rfl, rfl, rfl, rfl, rfl, trivial⟩ ?_
 refine go_block ?_
 refine go_loop' (X := Nat) (fun k => [(12, .int .i64 (k : Int))]) [(3, _), (4, _), (10, _), (11, _)] (fun k => [relO br (fof (l.take k))]) (fun k => k ≤ l.length) (fun k => l.length - k) (0) ⟨rfl, rfl, rfl, rfl, rfl, trivial⟩ (by repeat constructor) (by omega) ?_
 intro k hk
 refine go_seq ?_
 refine go_region rfl ?_
 refine go_pure0 Tk rfl rfl rfl ?_
 refine go_nil ?_
 refine go_env [(3, _), (4, _), (10, _), (11, _), (12, _), (13, _)] ⟨rfl, rfl, rfl, rfl, rfl, rfl, trivial⟩ ?_
 refine go_seq ?_
 refine go_condD rfl ?_ ?_
 ·intro c1
  refine go_skip ?_
  refine go_seq ?_
  refine go_block ?_
  refine go_seq ?_
  refine go_elem_fa (xs := l) (by repeat constructor) (k) (List.getElem?_eq_getElem (by omega)) (fun b0 o0 A0 c0 hA => ?_); cases hA
  refine go_region rfl ?_
  refine go_val0 rfl (idx_val Tk rfl rfl rfl rfl rfl (by omega)) rfl ?_
  refine go_val0 rfl (ldv Tk rfl rfl rfl) rfl ?_
  refine go_alloc Tk rfl rfl rfl (by rfl) rfl rfl (fun h => nomatch h) ?_
  intro b1
  refine go_store Tk rfl rfl rfl rfl rfl rfl (by repeat constructor) rfl rfl (by rfl) (fun h => nomatch h) ?_
  refine go_nil ?_
  refine go_env [(3, _), (4, _), (6, _), (10, _), (11, _), (12, _)] ⟨rfl, rfl, rfl, rfl, rfl, rfl, trivial⟩ ?_
  refine go_region rfl ?_
  refine go_pure0 Tk rfl rfl rfl ?_
  refine go_val0 rfl (ldv Tk rfl rfl rfl) rfl ?_
  refine go_call (relPut br (fof (l.take k)) l[k] A0 c0 (rises_fof _) (by have := fof_len (l.take k); rw [List.length_take] at this; omega) (hb _ (List.getElem_mem _))) rfl rfl (by rfl) rfl (by repeat constructor) (by repeat constructor) (fun h => nomatch h) ?_
  rintro _ _ _ ⟨rfl, rfl, rfl⟩
  refine go_nil ?_
  refine go_env [(3, _), (4, _), (10, _), (11, _), (12, _)] ⟨rfl, rfl, rfl, rfl, rfl, trivial⟩ ?_
  refine go_blk ?_
  refine go_region rfl ?_
  refine go_pure0 Tk rfl rfl rfl ?_
  refine go_pure0 Tk rfl rfl rfl ?_
  refine go_nil ?_
  refine go_i64 12 rfl (by omega) (by omega) ?_
  rw [← fof_next (by omega)]
  refine go_back (k + 1) ⟨rfl, rfl, rfl, rfl, rfl, trivial⟩ (by repeat constructor) (by repeat constructor) (by omega) (by omega)
 ·intro c1
  refine go_exit rfl ?_
  refine go_seq ?_
  rw [List.take_of_length_le (show l.length ≤ k by omega)]
  refine go_region rfl ?_
  refine go_pure0 Tk rfl rfl rfl ?_
  refine go_pure0 Tk rfl rfl rfl ?_
  refine go_nil ?_
  refine go_env [(2, _)] ⟨rfl, trivial⟩ ?_
  refine go_ret ⟨rfl, rfl⟩ _ _ (res1 (by rfl) (.tmp rfl)) ⟨br, rfl, rfl, rfl⟩ (by repeat constructor) (by repeat constructor)

end Go.Proofs.YtkhddfknpegpmaaGreat.SL

/- Contracts of functions of the program (Refrel): what each call comes to, for the laws' proofs. -/
set_option linter.unusedVariables false
set_option linter.unusedSimpArgs false
namespace Go.Proofs.YtkhddfknpegpmaaGreat.SL
open Go 






end Go.Proofs.YtkhddfknpegpmaaGreat.SL

/- Contracts of functions of the program (Refrelb): what each call comes to, for the laws' proofs. -/
set_option linter.unusedVariables false
set_option linter.unusedSimpArgs false
namespace Go.Proofs.YtkhddfknpegpmaaGreat.SL
open Go 











end Go.Proofs.YtkhddfknpegpmaaGreat.SL

/- Contracts of functions of the program (Relr): what each call comes to, for the laws' proofs. -/
set_option linter.unusedVariables false
set_option linter.unusedSimpArgs false
namespace Go.Proofs.YtkhddfknpegpmaaGreat.SL
open Go 

theorem lend_relN {b : Nat} {l : List Fa} : ∀ (hp h1 H : Heap), hp.le H → h1.le H → (relO b l).p hp h1 → (relN (some ⟨b, 0, none⟩) l).p H := fun hp h1 H l1 l2 q => relN_some (lend_rel hp h1 H l1 l2 q)
theorem Spec.ownD {P : Program} {f : FuncId} {args : Array Value} {b e : Nat} {l m : List Fa} {Ps : List PA} (s : Spec P f args (relN (some ⟨b, 0, none⟩) l :: Ps) [] (fun v Ps' Os' => ∃ A c, v = .slice A m.length c ∧ Ps' = [] ∧ Os' = [dl tFa e A c m])) :
    Spec P f args Ps [relO b l] (fun v Ps' Os' => ∃ A c, v = .slice A m.length c ∧ Ps' = [] ∧ Os' = [relO b l, dl tFa e A c m]) :=
  (s.lend (relO b l) lend_relN (fun v P' O' ⟨A, c, h⟩ => ⟨h.2.1, by rw [h.2.2]; intro B hB; rw [List.mem_singleton.1 hB]; exact free_dl⟩)).imp fun v P' O' ⟨O2, ⟨A, c, h1, _, h3⟩, h4, h5⟩ => ⟨A, c, h1, h4, by rw [h5, h3]⟩
theorem relListO (b : Nat) (l : List Fa) (hn : l.length ≤ 50000000) (hb : ∀ x ∈ l, x.a.length ≤ 100000) : Spec Tryz.prog 18 #[.pointer (some ⟨b, 0, none⟩)] [] [relO b l] (fun v Ps' Os' => ∃ A c, v = .slice A (l).length c ∧ Ps' = [] ∧ Os' = [relO b l, dl tFa 52 A c (l)]) := (relListN _ l hn hb).ownD
theorem relFindO (b : Nat) (l : List Fa) (a : Am) (AA : Option Addr) (ac : Nat) (ha : ∀ t ∈ a.a, 0 ≤ t.n) (hm : a.a.length ≤ 1000000) (hn : l.length ≤ 50000000) (hb : ∀ x ∈ l, x.a.length ≤ 100000) : Spec Tryz.prog 48 #[.pointer (some ⟨b, 0, none⟩), .agg #[.int .u32 a.p, .slice AA a.a.length ac]] [sl tTm AA ac a.a] [relO b l] (fun v Ps' Os' => ∃ A c, v = .slice A (l.filter (mtch a)).length c ∧ Ps' = [] ∧ Os' = [relO b l, dl tFa 52 A c (l.filter (mtch a))]) := (relFindN _ l a AA ac ha hm hn hb).ownD


theorem wk_r1 : rises [(⟨1, [2]⟩ : Fa)] := by unfold rises; simp
theorem wk_r2 : rises [(⟨1, [1]⟩ : Fa), (⟨1, [2]⟩ : Fa)] := by unfold rises; decide
theorem wk_f1 : [(⟨1, [1]⟩ : Fa), (⟨1, [2]⟩ : Fa)].filter (mtch (⟨1, [⟨true, 0⟩]⟩ : Am)) = [(⟨1, [1]⟩ : Fa), (⟨1, [2]⟩ : Fa)] := by
  rw [List.filter_eq_self]
  intro x hx
  unfold mtch
  rw [decide_eq_true_iff]
  simp only [List.mem_cons, List.not_mem_nil, or_false] at hx
  rcases hx with rfl | rfl
  · exact ⟨fun _ => 1, rfl⟩
  · exact ⟨fun _ => 2, rfl⟩
theorem wk_f2 : [(⟨1, [1]⟩ : Fa), (⟨1, [2]⟩ : Fa)].filter (mtch (⟨1, [⟨true, 0⟩, ⟨true, 1⟩]⟩ : Am)) = [] := by
  rw [List.filter_eq_nil_iff]
  intro x hx
  simp only [List.mem_cons, List.not_mem_nil, or_false] at hx
  rcases hx with rfl | rfl <;> (intro h; unfold mtch at h; rw [decide_eq_true_iff] at h; have := h.pred.2; simp at this)


end Go.Proofs.YtkhddfknpegpmaaGreat.SL
