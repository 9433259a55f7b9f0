/- Engine, data and contracts: parts of the proof, put together (Safea Safeb Safec Safed Safee Safef Safeg). -/
import Derived.Test.YtkhddfknpegpmaaGreatMD
import Derived.Test.YtkhddfknpegpmaaGreatMC
import Derived.Shelf.Small.Bits
import Derived.Ground.NamesProg
/- Contracts of functions of the program (Safea): what each call comes to, for the laws' proofs. -/
set_option linter.unusedVariables false
set_option linter.unusedSimpArgs false
namespace Go.Proofs.YtkhddfknpegpmaaGreat.SL
open Go 

def SoTm (g : FuncId) (p : Tm → Bool) : Prop := ∀ t : Tm, Spec Tryz.prog g #[Value.agg #[.bool t.v, .int .u32 t.n]] [] [] (fun v Ps' Os' => v = .bool (p t) ∧ Ps' = [] ∧ Os' = [])
def SoLi (g : FuncId) (p : Li → Bool) : Prop := ∀ (x : Li) (A : Option Addr) (c : Nat), Spec Tryz.prog g #[Value.agg #[.bool x.no, .int .u32 x.a.p, .slice A x.a.a.length c]] [sl tTm A c x.a.a] [] (fun v Ps' Os' => v = .bool (p x) ∧ Ps' = [] ∧ Os' = [])

set_option maxHeartbeats 2000000 in
set_option maxRecDepth 20000 in
theorem indexFTm (L : Option Addr) (lc : Nat) (l : List Tm) (g : FuncId) (p : Tm → Bool) (hso : SoTm g p) :
    Spec Tryz.prog 106 #[.slice L l.length lc, .func (.func g) #[] #[]] [sl tTm L lc l] [] (fun v Ps' Os' => v = .int .i64 (idxP p l) ∧ Ps' = [] ∧ Os' = []) := by
 refine spec_of (fn := Tryz.f106) (args := [.slice L l.length lc, .func (.func g) #[] #[]]) 19 Tryz.func106 rfl (by kernel_rfl) Tryz.ntmps106 (Nat.le_of_ble_eq_true rfl) (fun w0 hp0 hf0 => ?_)
 refine go_seq ?_
 refine go_len (xs := l) (by repeat constructor) (fun l0 m0 => ?_)
 refine go_region rfl ?_
 refine go_pure0 Tk rfl rfl rfl ?_
 refine go_nil ?_
 refine go_env [(0, _), (1, _)] ⟨rfl, rfl, trivial⟩ ?_
 refine go_seq ?_
 refine go_seq ?_
 refine go_region rfl ?_
 refine go_pure0 Tk rfl rfl rfl ?_
 refine go_pure0 Tk rfl rfl rfl ?_
 refine go_pure0 Tk rfl rfl rfl ?_
 refine go_nil ?_
 refine go_env [(0, _), (1, _), (7, _), (8, _)] ⟨rfl, rfl, rfl, rfl, trivial⟩ ?_
 refine go_block ?_
 refine go_loop' (X := Nat) (fun k => [(8, .int .i64 (k : Int))]) [(0, _), (1, _), (7, _)] (fun _ => []) (fun k => k ≤ l.length ∧ ∀ y ∈ l.take k, p y = false) (fun k => l.length - k) (0) ⟨rfl, rfl, rfl, rfl, trivial⟩ (by repeat constructor) ⟨by omega, by simp⟩ ?_
 intro k ⟨hk, hz⟩
 refine go_seq ?_
 refine go_region rfl ?_
 refine go_pure0 Tk rfl rfl rfl ?_
 refine go_nil ?_
 refine go_env [(0, _), (1, _), (7, _), (8, _), (9, _)] ⟨rfl, rfl, rfl, rfl, rfl, trivial⟩ ?_
 refine go_seq ?_
 refine go_condD rfl ?_ ?_
 ·intro hq1
  refine go_skip ?_
  refine go_seq ?_
  refine go_block ?_
  refine go_seq ?_
  refine go_region rfl ?_
  refine go_pure0 Tk rfl rfl rfl ?_
  refine go_pure0 Tk rfl rfl rfl ?_
  refine go_nil ?_
  refine go_env [(0, _), (1, _), (5, _), (7, _), (8, _)] ⟨rfl, rfl, rfl, rfl, rfl, trivial⟩ ?_
  refine go_seq ?_
  refine go_elem_tm (xs := l) (by repeat constructor) (k) (List.getElem?_eq_getElem (by omega)) (fun b0 o0 hA => ?_); cases hA
  refine go_region rfl ?_
  refine go_pure0 Tk rfl rfl rfl ?_
  refine go_pure0 Tk rfl rfl rfl ?_
  refine go_pure0 Tk rfl rfl rfl ?_
  refine go_val0 rfl (idx_val Tk rfl rfl rfl rfl rfl (by omega)) rfl ?_
  refine go_val0 rfl (ldv Tk rfl rfl rfl) rfl ?_
  refine go_call (hso l[k]) rfl rfl (by rfl) rfl (by repeat constructor) (by repeat constructor) (fun h => nomatch h) ?_
  rintro _ _ _ ⟨rfl, rfl, rfl⟩
  refine go_nil ?_
  refine go_env [(0, _), (1, _), (5, _), (7, _), (8, _), (16, _)] ⟨rfl, rfl, rfl, rfl, rfl, rfl, trivial⟩ ?_
  refine go_cond rfl ?_ ?_
  ·intro g1
   (try simp only [decide_eq_true_eq, decide_eq_false_iff_not, Bool.not_eq_true', Bool.not_eq_false', Bool.not_eq_eq_eq_not, Bool.not_true, Bool.not_false, Int.not_lt, Int.not_le, beq_iff_eq, beq_eq_false_iff_ne, ne_eq] at g1)
   refine go_seq ?_
   refine go_region rfl ?_
   refine go_pure0 Tk rfl rfl rfl ?_
   refine go_pure0 Tk rfl rfl rfl ?_
   refine go_nil ?_
   refine go_env [(4, _)] ⟨rfl, trivial⟩ ?_
   refine go_ret ⟨rfl, rfl⟩ _ _ (res1 (by rfl) (.tmp rfl)) ⟨by rw [idxP_hit (by omega) hz g1], rfl, rfl⟩ (by repeat constructor) (by repeat constructor)
  ·intro g1
   (try simp only [decide_eq_true_eq, decide_eq_false_iff_not, Bool.not_eq_true', Bool.not_eq_false', Bool.not_eq_eq_eq_not, Bool.not_true, Bool.not_false, Int.not_lt, Int.not_le, beq_iff_eq, beq_eq_false_iff_ne, ne_eq] at g1)
   refine go_skip ?_
   refine go_blk ?_
   refine go_region rfl ?_
   refine go_pure0 Tk rfl rfl rfl ?_
   refine go_pure0 Tk rfl rfl rfl ?_
   refine go_nil ?_
   refine go_i64 8 rfl (by omega) (by omega) ?_
   refine go_back (k + 1) ⟨rfl, rfl, rfl, rfl, trivial⟩ (by repeat constructor) (by repeat constructor) (⟨by omega, mem_take_next' (by omega) hz g1⟩) (by omega)
 ·intro hq1
  refine go_exit rfl ?_
  refine go_seq ?_
  refine go_region rfl ?_
  refine go_pure0 Tk rfl rfl rfl ?_
  refine go_nil ?_
  refine go_env [(4, _)] ⟨rfl, trivial⟩ ?_
  refine go_ret ⟨rfl, rfl⟩ _ _ (res1 (by rfl) (.tmp rfl)) ⟨by rw [idxP_none (by omega) hz], rfl, rfl⟩ (by repeat constructor) (by repeat constructor)

set_option maxHeartbeats 2000000 in
set_option maxRecDepth 20000 in
theorem containsTm (L : Option Addr) (lc : Nat) (l : List Tm) (g : FuncId) (p : Tm → Bool) (hso : SoTm g p) :
    Spec Tryz.prog 94 #[.slice L l.length lc, .func (.func g) #[] #[]] [sl tTm L lc l] [] (fun v Ps' Os' => v = .bool (l.any p) ∧ Ps' = [] ∧ Os' = []) := by
 refine spec_of (fn := Tryz.f94) (args := [.slice L l.length lc, .func (.func g) #[] #[]]) 9 Tryz.func94 rfl (by kernel_rfl) Tryz.ntmps94 (Nat.le_of_ble_eq_true rfl) (fun w0 hp0 hf0 => ?_)
 refine go_seq ?_
 refine go_region rfl ?_
 refine go_pure0 Tk rfl rfl rfl ?_
 refine go_nil ?_
 refine go_env [(0, _), (1, _)] ⟨rfl, rfl, trivial⟩ ?_
 refine go_seq ?_
 refine go_region rfl ?_
 refine go_pure0 Tk rfl rfl rfl ?_
 refine go_pure0 Tk rfl rfl rfl ?_
 refine go_call (indexFTm L lc l g p hso) rfl rfl (by rfl) rfl (by repeat constructor) (by repeat constructor) (fun h => nomatch h) ?_
 rintro _ _ _ ⟨rfl, rfl, rfl⟩
 refine go_pure0 Tk rfl rfl rfl ?_
 refine go_pure0 Tk rfl rfl rfl ?_
 refine go_nil ?_
 refine go_env [(4, _)] ⟨rfl, trivial⟩ ?_
 refine go_ret ⟨rfl, rfl⟩ _ _ (res1 (by rfl) (.tmp rfl)) ⟨congrArg Value.bool (idxP_any p l).symm, rfl, rfl⟩ (by repeat constructor) (by repeat constructor)

set_option maxHeartbeats 2000000 in
set_option maxRecDepth 20000 in
theorem indexFLi (L : Option Addr) (lc : Nat) (l : List Li) (g : FuncId) (p : Li → Bool) (hso : SoLi g p) :
    Spec Tryz.prog 96 #[.slice L l.length lc, .func (.func g) #[] #[]] [sl tLi L lc l] [] (fun v Ps' Os' => v = .int .i64 (idxP p l) ∧ Ps' = [] ∧ Os' = []) := by
 refine spec_of (fn := Tryz.f96) (args := [.slice L l.length lc, .func (.func g) #[] #[]]) 19 Tryz.func96 rfl (by kernel_rfl) Tryz.ntmps96 (Nat.le_of_ble_eq_true rfl) (fun w0 hp0 hf0 => ?_)
 refine go_seq ?_
 refine go_len (xs := l) (by repeat constructor) (fun l0 m0 => ?_)
 refine go_region rfl ?_
 refine go_pure0 Tk rfl rfl rfl ?_
 refine go_nil ?_
 refine go_env [(0, _), (1, _)] ⟨rfl, rfl, trivial⟩ ?_
 refine go_seq ?_
 refine go_seq ?_
 refine go_region rfl ?_
 refine go_pure0 Tk rfl rfl rfl ?_
 refine go_pure0 Tk rfl rfl rfl ?_
 refine go_pure0 Tk rfl rfl rfl ?_
 refine go_nil ?_
 refine go_env [(0, _), (1, _), (7, _), (8, _)] ⟨rfl, rfl, rfl, rfl, trivial⟩ ?_
 refine go_block ?_
 refine go_loop' (X := Nat) (fun k => [(8, .int .i64 (k : Int))]) [(0, _), (1, _), (7, _)] (fun _ => []) (fun k => k ≤ l.length ∧ ∀ y ∈ l.take k, p y = false) (fun k => l.length - k) (0) ⟨rfl, rfl, rfl, rfl, trivial⟩ (by repeat constructor) ⟨by omega, by simp⟩ ?_
 intro k ⟨hk, hz⟩
 refine go_seq ?_
 refine go_region rfl ?_
 refine go_pure0 Tk rfl rfl rfl ?_
 refine go_nil ?_
 refine go_env [(0, _), (1, _), (7, _), (8, _), (9, _)] ⟨rfl, rfl, rfl, rfl, rfl, trivial⟩ ?_
 refine go_seq ?_
 refine go_condD rfl ?_ ?_
 ·intro hq1
  refine go_skip ?_
  refine go_seq ?_
  refine go_block ?_
  refine go_seq ?_
  refine go_region rfl ?_
  refine go_pure0 Tk rfl rfl rfl ?_
  refine go_pure0 Tk rfl rfl rfl ?_
  refine go_nil ?_
  refine go_env [(0, _), (1, _), (5, _), (7, _), (8, _)] ⟨rfl, rfl, rfl, rfl, rfl, trivial⟩ ?_
  refine go_seq ?_
  refine go_elem_li (xs := l) (by repeat constructor) (k) (List.getElem?_eq_getElem (by omega)) (fun b0 o0 A0 c0 hA => ?_); cases hA
  refine go_region rfl ?_
  refine go_pure0 Tk rfl rfl rfl ?_
  refine go_pure0 Tk rfl rfl rfl ?_
  refine go_pure0 Tk rfl rfl rfl ?_
  refine go_val0 rfl (idx_val Tk rfl rfl rfl rfl rfl (by omega)) rfl ?_
  refine go_val0 rfl (ldv Tk rfl rfl rfl) rfl ?_
  refine go_call (hso l[k] A0 c0) rfl rfl (by rfl) rfl (by repeat constructor) (by repeat constructor) (fun h => nomatch h) ?_
  rintro _ _ _ ⟨rfl, rfl, rfl⟩
  refine go_nil ?_
  refine go_env [(0, _), (1, _), (5, _), (7, _), (8, _), (16, _)] ⟨rfl, rfl, rfl, rfl, rfl, rfl, trivial⟩ ?_
  refine go_cond rfl ?_ ?_
  ·intro g1
   (try simp only [decide_eq_true_eq, decide_eq_false_iff_not, Bool.not_eq_true', Bool.not_eq_false', Bool.not_eq_eq_eq_not, Bool.not_true, Bool.not_false, Int.not_lt, Int.not_le, beq_iff_eq, beq_eq_false_iff_ne, ne_eq] at g1)
   refine go_seq ?_
   refine go_region rfl ?_
   refine go_pure0 Tk rfl rfl rfl ?_
   refine go_pure0 Tk rfl rfl rfl ?_
   refine go_nil ?_
   refine go_env [(4, _)] ⟨rfl, trivial⟩ ?_
   refine go_ret ⟨rfl, rfl⟩ _ _ (res1 (by rfl) (.tmp rfl)) ⟨by rw [idxP_hit (by omega) hz g1], rfl, rfl⟩ (by repeat constructor) (by repeat constructor)
  ·intro g1
   (try simp only [decide_eq_true_eq, decide_eq_false_iff_not, Bool.not_eq_true', Bool.not_eq_false', Bool.not_eq_eq_eq_not, Bool.not_true, Bool.not_false, Int.not_lt, Int.not_le, beq_iff_eq, beq_eq_false_iff_ne, ne_eq] at g1)
   refine go_skip ?_
   refine go_blk ?_
   refine go_region rfl ?_
   refine go_pure0 Tk rfl rfl rfl ?_
   refine go_pure0 Tk rfl rfl rfl ?_
   refine go_nil ?_
   refine go_i64 8 rfl (by omega) (by omega) ?_
   refine go_back (k + 1) ⟨rfl, rfl, rfl, rfl, trivial⟩ (by repeat constructor) (by repeat constructor) (⟨by omega, mem_take_next' (by omega) hz g1⟩) (by omega)
 ·intro hq1
  refine go_exit rfl ?_
  refine go_seq ?_
  refine go_region rfl ?_
  refine go_pure0 Tk rfl rfl rfl ?_
  refine go_nil ?_
  refine go_env [(4, _)] ⟨rfl, trivial⟩ ?_
  refine go_ret ⟨rfl, rfl⟩ _ _ (res1 (by rfl) (.tmp rfl)) ⟨by rw [idxP_none (by omega) hz], rfl, rfl⟩ (by repeat constructor) (by repeat constructor)

set_option maxHeartbeats 2000000 in
set_option maxRecDepth 20000 in
theorem containsLi (L : Option Addr) (lc : Nat) (l : List Li) (g : FuncId) (p : Li → Bool) (hso : SoLi g p) :
    Spec Tryz.prog 77 #[.slice L l.length lc, .func (.func g) #[] #[]] [sl tLi L lc l] [] (fun v Ps' Os' => v = .bool (l.any p) ∧ Ps' = [] ∧ Os' = []) := by
 refine spec_of (fn := Tryz.f77) (args := [.slice L l.length lc, .func (.func g) #[] #[]]) 9 Tryz.func77 rfl (by kernel_rfl) Tryz.ntmps77 (Nat.le_of_ble_eq_true rfl) (fun w0 hp0 hf0 => ?_)
 refine go_seq ?_
 refine go_region rfl ?_
 refine go_pure0 Tk rfl rfl rfl ?_
 refine go_nil ?_
 refine go_env [(0, _), (1, _)] ⟨rfl, rfl, trivial⟩ ?_
 refine go_seq ?_
 refine go_region rfl ?_
 refine go_pure0 Tk rfl rfl rfl ?_
 refine go_pure0 Tk rfl rfl rfl ?_
 refine go_call (indexFLi L lc l g p hso) rfl rfl (by rfl) rfl (by repeat constructor) (by repeat constructor) (fun h => nomatch h) ?_
 rintro _ _ _ ⟨rfl, rfl, rfl⟩
 refine go_pure0 Tk rfl rfl rfl ?_
 refine go_pure0 Tk rfl rfl rfl ?_
 refine go_nil ?_
 refine go_env [(4, _)] ⟨rfl, trivial⟩ ?_
 refine go_ret ⟨rfl, rfl⟩ _ _ (res1 (by rfl) (.tmp rfl)) ⟨congrArg Value.bool (idxP_any p l).symm, rfl, rfl⟩ (by repeat constructor) (by repeat constructor)

set_option maxHeartbeats 2000000 in
set_option maxRecDepth 20000 in
theorem mayAtom1 (t : Tm) :
    Spec Tryz.prog 95 #[.agg #[.bool t.v, .int .u32 t.n]] [] [] (fun v Ps' Os' => v = .bool (t.v && decide (16 ≤ t.n)) ∧ Ps' = [] ∧ Os' = []) := by
 refine spec_of (fn := Tryz.f95) (args := [.agg #[.bool t.v, .int .u32 t.n]]) 10 Tryz.func95 rfl (by kernel_rfl) Tryz.ntmps95 (Nat.le_of_ble_eq_true rfl) (fun w0 hp0 hf0 => ?_)
 refine go_seq ?_
 refine go_region rfl ?_
 refine go_box Tk rfl rfl rfl rfl (by rfl) rfl rfl (fun h => nomatch h) ?_
 intro b1
 refine go_pure0 Tk rfl rfl rfl ?_
 refine go_nil ?_
 refine go_env [(1, _)] ⟨rfl, trivial⟩ ?_
 refine go_seq ?_
 refine go_region rfl ?_
 refine go_pure0 Tk rfl rfl rfl ?_
 refine go_val0 rfl (ldv Tk rfl rfl rfl) rfl ?_
 refine go_pure0 Tk rfl rfl rfl ?_
 refine go_known 5 rfl ?_ ?_
 ·intro g1
  (try simp only [decide_eq_true_eq, decide_eq_false_iff_not, Bool.not_eq_true', Bool.not_eq_false', Bool.not_eq_eq_eq_not, Bool.not_true, Bool.not_false, Int.not_lt, Int.not_le, beq_iff_eq, beq_eq_false_iff_ne, ne_eq] at g1)
  refine go_pure0 Tk rfl rfl rfl ?_
  refine go_val0 rfl (ldv Tk rfl rfl rfl) rfl ?_
  refine go_pure0 Tk rfl rfl rfl ?_
  refine go_pure0 Tk rfl rfl rfl ?_
  refine go_pure0 Tk rfl rfl rfl ?_
  refine go_nil ?_
  refine go_env [(2, _)] ⟨rfl, trivial⟩ ?_
  refine go_ret ⟨rfl, rfl⟩ _ _ (res1 (by rfl) (.tmp rfl)) ⟨by rw [g1]; rfl, rfl, rfl⟩ (by repeat constructor) (by repeat constructor)
 ·intro g1
  (try simp only [decide_eq_true_eq, decide_eq_false_iff_not, Bool.not_eq_true', Bool.not_eq_false', Bool.not_eq_eq_eq_not, Bool.not_true, Bool.not_false, Int.not_lt, Int.not_le, beq_iff_eq, beq_eq_false_iff_ne, ne_eq] at g1)
  refine go_skip0 rfl rfl ?_
  refine go_skip0 rfl rfl ?_
  refine go_skip0 rfl rfl ?_
  refine go_pure0 Tk rfl rfl rfl ?_
  refine go_pure0 Tk rfl rfl rfl ?_
  refine go_nil ?_
  refine go_env [(2, _)] ⟨rfl, trivial⟩ ?_
  refine go_ret ⟨rfl, rfl⟩ _ _ (res1 (by rfl) (.tmp rfl)) ⟨by rw [g1]; rfl, rfl, rfl⟩ (by repeat constructor) (by repeat constructor)

set_option maxHeartbeats 2000000 in
set_option maxRecDepth 20000 in
theorem ground1 (t : Tm) :
    Spec Tryz.prog 101 #[.agg #[.bool t.v, .int .u32 t.n]] [] [] (fun v Ps' Os' => v = .bool t.v ∧ Ps' = [] ∧ Os' = []) := by
 refine spec_of (fn := Tryz.f101) (args := [.agg #[.bool t.v, .int .u32 t.n]]) 5 Tryz.func101 rfl (by kernel_rfl) Tryz.ntmps101 (Nat.le_of_ble_eq_true rfl) (fun w0 hp0 hf0 => ?_)
 refine go_seq ?_
 refine go_region rfl ?_
 refine go_box Tk rfl rfl rfl rfl (by rfl) rfl rfl (fun h => nomatch h) ?_
 intro b1
 refine go_pure0 Tk rfl rfl rfl ?_
 refine go_nil ?_
 refine go_env [(1, _)] ⟨rfl, trivial⟩ ?_
 refine go_seq ?_
 refine go_region rfl ?_
 refine go_pure0 Tk rfl rfl rfl ?_
 refine go_val0 rfl (ldv Tk rfl rfl rfl) rfl ?_
 refine go_pure0 Tk rfl rfl rfl ?_
 refine go_nil ?_
 refine go_env [(2, _)] ⟨rfl, trivial⟩ ?_
 refine go_ret ⟨rfl, rfl⟩ _ _ (res1 (by rfl) (.tmp rfl)) ⟨rfl, rfl, rfl⟩ (by repeat constructor) (by repeat constructor)

set_option maxHeartbeats 2000000 in
set_option maxRecDepth 20000 in
theorem mayAtom (a : Am) (AA : Option Addr) (ac : Nat) :
    Spec Tryz.prog 76 #[.agg #[.int .u32 a.p, .slice AA a.a.length ac]] [sl tTm AA ac a.a] [] (fun v Ps' Os' => v = .bool (mayA a) ∧ Ps' = [] ∧ Os' = []) := by
 refine spec_of (fn := Tryz.f76) (args := [.agg #[.int .u32 a.p, .slice AA a.a.length ac]]) 13 Tryz.func76 rfl (by kernel_rfl) Tryz.ntmps76 (Nat.le_of_ble_eq_true rfl) (fun w0 hp0 hf0 => ?_)
 refine go_seq ?_
 refine go_region rfl ?_
 refine go_box Tk rfl rfl rfl rfl (by rfl) rfl rfl (fun h => nomatch h) ?_
 intro b1
 refine go_pure0 Tk rfl rfl rfl ?_
 refine go_nil ?_
 refine go_env [(1, _)] ⟨rfl, trivial⟩ ?_
 refine go_seq ?_
 refine go_len (xs := a.a) (by repeat constructor) (fun l0 m0 => ?_)
 refine go_region rfl ?_
 refine go_pure0 Tk rfl rfl rfl ?_
 refine go_val0 rfl (ldv Tk rfl rfl rfl) rfl ?_
 refine go_pure0 Tk rfl rfl rfl ?_
 refine go_pure0 Tk rfl rfl rfl ?_
 refine go_pure0 Tk rfl rfl rfl ?_
 refine go_known 7 rfl ?_ ?_
 ·intro g1
  (try simp only [decide_eq_true_eq, decide_eq_false_iff_not, Bool.not_eq_true', Bool.not_eq_false', Bool.not_eq_eq_eq_not, Bool.not_true, Bool.not_false, Int.not_lt, Int.not_le, beq_iff_eq, beq_eq_false_iff_ne, ne_eq] at g1)
  refine go_pure0 Tk rfl rfl rfl ?_
  refine go_val0 rfl (ldv Tk rfl rfl rfl) rfl ?_
  refine go_call (containsTm AA ac a.a 95 _ (fun t => mayAtom1 t)) rfl rfl (by rfl) rfl (by repeat constructor) (by repeat constructor) (fun h => nomatch h) ?_
  rintro _ _ _ ⟨rfl, rfl, rfl⟩
  refine go_pure0 Tk rfl rfl rfl ?_
  refine go_pure0 Tk rfl rfl rfl ?_
  refine go_pure0 Tk rfl rfl rfl ?_
  refine go_nil ?_
  refine go_env [(2, _)] ⟨rfl, trivial⟩ ?_
  refine go_ret ⟨rfl, rfl⟩ _ _ (res1 (by rfl) (.tmp rfl)) ⟨by unfold mayA; rw [decide_eq_true (by omega)]; rfl, rfl, rfl⟩ (by repeat constructor) (by repeat constructor)
 ·intro g1
  (try simp only [decide_eq_true_eq, decide_eq_false_iff_not, Bool.not_eq_true', Bool.not_eq_false', Bool.not_eq_eq_eq_not, Bool.not_true, Bool.not_false, Int.not_lt, Int.not_le, beq_iff_eq, beq_eq_false_iff_ne, ne_eq] at g1)
  refine go_skip0 rfl rfl ?_
  refine go_skip0 rfl rfl ?_
  refine go_skip0 rfl rfl ?_
  refine go_skip0 rfl rfl ?_
  refine go_pure0 Tk rfl rfl rfl ?_
  refine go_pure0 Tk rfl rfl rfl ?_
  refine go_nil ?_
  refine go_env [(2, _)] ⟨rfl, trivial⟩ ?_
  refine go_ret ⟨rfl, rfl⟩ _ _ (res1 (by rfl) (.tmp rfl)) ⟨by unfold mayA; rw [decide_eq_false (by omega)]; rfl, rfl, rfl⟩ (by repeat constructor) (by repeat constructor)

set_option maxHeartbeats 2000000 in
set_option maxRecDepth 20000 in
theorem may1 (x : Li) (A : Option Addr) (c : Nat) :
    Spec Tryz.prog 78 #[.agg #[.bool x.no, .int .u32 x.a.p, .slice A x.a.a.length c]] [sl tTm A c x.a.a] [] (fun v Ps' Os' => v = .bool (!mayA x.a) ∧ Ps' = [] ∧ Os' = []) := by
 refine spec_of (fn := Tryz.f78) (args := [.agg #[.bool x.no, .int .u32 x.a.p, .slice A x.a.a.length c]]) 7 Tryz.func78 rfl (by kernel_rfl) Tryz.ntmps78 (Nat.le_of_ble_eq_true rfl) (fun w0 hp0 hf0 => ?_)
 refine go_seq ?_
 refine go_region rfl ?_
 refine go_box Tk rfl rfl rfl rfl (by rfl) rfl rfl (fun h => nomatch h) ?_
 intro b1
 refine go_pure0 Tk rfl rfl rfl ?_
 refine go_nil ?_
 refine go_env [(1, _)] ⟨rfl, trivial⟩ ?_
 refine go_seq ?_
 refine go_region rfl ?_
 refine go_pure0 Tk rfl rfl rfl ?_
 refine go_val0 rfl (ldv Tk rfl rfl rfl) rfl ?_
 refine go_call (mayAtom x.a A c) rfl rfl (by rfl) rfl (by repeat constructor) (by repeat constructor) (fun h => nomatch h) ?_
 rintro _ _ _ ⟨rfl, rfl, rfl⟩
 refine go_pure0 Tk rfl rfl rfl ?_
 refine go_pure0 Tk rfl rfl rfl ?_
 refine go_nil ?_
 refine go_env [(2, _)] ⟨rfl, trivial⟩ ?_
 refine go_ret ⟨rfl, rfl⟩ _ _ (res1 (by rfl) (.tmp rfl)) ⟨rfl, rfl, rfl⟩ (by repeat constructor) (by repeat constructor)

set_option maxHeartbeats 2000000 in
set_option maxRecDepth 20000 in
theorem may (c : Cl) (CA : Option Addr) (cc : Nat) (CB : Option Addr) (cd : Nat) :
    Spec Tryz.prog 61 #[.agg #[.int .u32 c.h.p, .slice CA c.h.a.length cc, .slice CB c.b.length cd]] [sl tTm CA cc c.h.a, sl tLi CB cd c.b] [] (fun v Ps' Os' => v = .bool (mayC c) ∧ Ps' = [] ∧ Os' = []) := by
 refine spec_of (fn := Tryz.f61) (args := [.agg #[.int .u32 c.h.p, .slice CA c.h.a.length cc, .slice CB c.b.length cd]]) 18 Tryz.func61 rfl (by kernel_rfl) Tryz.ntmps61 (Nat.le_of_ble_eq_true rfl) (fun w0 hp0 hf0 => ?_)
 refine go_seq ?_
 refine go_region rfl ?_
 refine go_box Tk rfl rfl rfl rfl (by rfl) rfl rfl (fun h => nomatch h) ?_
 intro b1
 refine go_pure0 Tk rfl rfl rfl ?_
 refine go_nil ?_
 refine go_env [(1, _)] ⟨rfl, trivial⟩ ?_
 refine go_seq ?_
 refine go_len (xs := c.b) (by repeat constructor) (fun l0 m0 => ?_)
 refine go_region rfl ?_
 refine go_pure0 Tk rfl rfl rfl ?_
 refine go_val0 rfl (ldv Tk rfl rfl rfl) rfl ?_
 refine go_pure0 Tk rfl rfl rfl ?_
 refine go_pure0 Tk rfl rfl rfl ?_
 refine go_pure0 Tk rfl rfl rfl ?_
 refine go_known 7 rfl ?_ ?_
 ·intro g1
  (try simp only [decide_eq_true_eq, decide_eq_false_iff_not, Bool.not_eq_true', Bool.not_eq_false', Bool.not_eq_eq_eq_not, Bool.not_true, Bool.not_false, Int.not_lt, Int.not_le, beq_iff_eq, beq_eq_false_iff_ne, ne_eq] at g1)
  refine go_pure0 Tk rfl rfl rfl ?_
  refine go_val0 rfl (ldv Tk rfl rfl rfl) rfl ?_
  refine go_call (mayAtom c.h CA cc) rfl rfl (by rfl) rfl (by repeat constructor) (by repeat constructor) (fun h => nomatch h) ?_
  rintro _ _ _ ⟨rfl, rfl, rfl⟩
  refine go_pure0 Tk rfl rfl rfl ?_
  refine go_pure0 Tk rfl rfl rfl ?_
  refine go_known 12 rfl ?_ ?_
  ·intro g2
   (try simp only [decide_eq_true_eq, decide_eq_false_iff_not, Bool.not_eq_true', Bool.not_eq_false', Bool.not_eq_eq_eq_not, Bool.not_true, Bool.not_false, Int.not_lt, Int.not_le, beq_iff_eq, beq_eq_false_iff_ne, ne_eq] at g2)
   refine go_pure0 Tk rfl rfl rfl ?_
   refine go_val0 rfl (ldv Tk rfl rfl rfl) rfl ?_
   refine go_call (containsLi CB cd c.b 78 _ (fun x A c => may1 x A c)) rfl rfl (by rfl) rfl (by repeat constructor) (by repeat constructor) (fun h => nomatch h) ?_
   rintro _ _ _ ⟨rfl, rfl, rfl⟩
   refine go_pure0 Tk rfl rfl rfl ?_
   refine go_pure0 Tk rfl rfl rfl ?_
   refine go_pure0 Tk rfl rfl rfl ?_
   refine go_nil ?_
   refine go_env [(2, _)] ⟨rfl, trivial⟩ ?_
   refine go_ret ⟨rfl, rfl⟩ _ _ (res1 (by rfl) (.tmp rfl)) ⟨by unfold mayC; rw [decide_eq_true (by omega), g2]; rfl, rfl, rfl⟩ (by repeat constructor) (by repeat constructor)
  ·intro g2
   (try simp only [decide_eq_true_eq, decide_eq_false_iff_not, Bool.not_eq_true', Bool.not_eq_false', Bool.not_eq_eq_eq_not, Bool.not_true, Bool.not_false, Int.not_lt, Int.not_le, beq_iff_eq, beq_eq_false_iff_ne, ne_eq] at g2)
   refine go_skip0 rfl rfl ?_
   refine go_skip0 rfl rfl ?_
   refine go_skip0 rfl rfl ?_
   refine go_skip0 rfl rfl ?_
   refine go_pure0 Tk rfl rfl rfl ?_
   refine go_pure0 Tk rfl rfl rfl ?_
   refine go_nil ?_
   refine go_env [(2, _)] ⟨rfl, trivial⟩ ?_
   refine go_ret ⟨rfl, rfl⟩ _ _ (res1 (by rfl) (.tmp rfl)) ⟨by unfold mayC; rw [decide_eq_true (by omega), g2]; rfl, rfl, rfl⟩ (by repeat constructor) (by repeat constructor)
 ·intro g1
  (try simp only [decide_eq_true_eq, decide_eq_false_iff_not, Bool.not_eq_true', Bool.not_eq_false', Bool.not_eq_eq_eq_not, Bool.not_true, Bool.not_false, Int.not_lt, Int.not_le, beq_iff_eq, beq_eq_false_iff_ne, ne_eq] at g1)
  refine go_skip0 rfl rfl ?_
  refine go_skip0 rfl rfl ?_
  refine go_skip0 rfl rfl ?_
  refine go_pure0 Tk rfl rfl rfl ?_
  refine go_pure0 Tk rfl rfl rfl ?_
  refine go_skip0 rfl rfl ?_
  refine go_skip0 rfl rfl ?_
  refine go_skip0 rfl rfl ?_
  refine go_skip0 rfl rfl ?_
  refine go_pure0 Tk rfl rfl rfl ?_
  refine go_pure0 Tk rfl rfl rfl ?_
  refine go_nil ?_
  refine go_env [(2, _)] ⟨rfl, trivial⟩ ?_
  refine go_ret ⟨rfl, rfl⟩ _ _ (res1 (by rfl) (.tmp rfl)) ⟨by unfold mayC; rw [decide_eq_false (by omega)]; rfl, rfl, rfl⟩ (by repeat constructor) (by repeat constructor)

set_option maxHeartbeats 2000000 in
set_option maxRecDepth 20000 in
theorem groundA (a : Am) (AA : Option Addr) (ac : Nat) :
    Spec Tryz.prog 85 #[.agg #[.int .u32 a.p, .slice AA a.a.length ac]] [sl tTm AA ac a.a] [] (fun v Ps' Os' => v = .bool (ground a) ∧ Ps' = [] ∧ Os' = []) := by
 refine spec_of (fn := Tryz.f85) (args := [.agg #[.int .u32 a.p, .slice AA a.a.length ac]]) 7 Tryz.func85 rfl (by kernel_rfl) Tryz.ntmps85 (Nat.le_of_ble_eq_true rfl) (fun w0 hp0 hf0 => ?_)
 refine go_seq ?_
 refine go_region rfl ?_
 refine go_box Tk rfl rfl rfl rfl (by rfl) rfl rfl (fun h => nomatch h) ?_
 intro b1
 refine go_pure0 Tk rfl rfl rfl ?_
 refine go_nil ?_
 refine go_env [(1, _)] ⟨rfl, trivial⟩ ?_
 refine go_seq ?_
 refine go_region rfl ?_
 refine go_pure0 Tk rfl rfl rfl ?_
 refine go_val0 rfl (ldv Tk rfl rfl rfl) rfl ?_
 refine go_call (containsTm AA ac a.a 101 _ (fun t => ground1 t)) rfl rfl (by rfl) rfl (by repeat constructor) (by repeat constructor) (fun h => nomatch h) ?_
 rintro _ _ _ ⟨rfl, rfl, rfl⟩
 refine go_pure0 Tk rfl rfl rfl ?_
 refine go_pure0 Tk rfl rfl rfl ?_
 refine go_nil ?_
 refine go_env [(2, _)] ⟨rfl, trivial⟩ ?_
 refine go_ret ⟨rfl, rfl⟩ _ _ (res1 (by rfl) (.tmp rfl)) ⟨rfl, rfl, rfl⟩ (by repeat constructor) (by repeat constructor)

end Go.Proofs.YtkhddfknpegpmaaGreat.SL

/- Contracts of functions of the program (Safeb): what each call comes to, for the laws' proofs. -/
set_option linter.unusedVariables false
set_option linter.unusedSimpArgs false
namespace Go.Proofs.YtkhddfknpegpmaaGreat.SL
open Go 

set_option maxHeartbeats 2000000 in
set_option maxRecDepth 20000 in
theorem lessU (x y : Int) :
    Spec Tryz.prog 115 #[.int .u32 x, .int .u32 y] [] [] (fun v Ps' Os' => v = .bool (decide (x < y)) ∧ Ps' = [] ∧ Os' = []) := by
 refine spec_of (fn := Tryz.f115) (args := [.int .u32 x, .int .u32 y]) 17 Tryz.func115 rfl (by kernel_rfl) Tryz.ntmps115 (Nat.le_of_ble_eq_true rfl) (fun w0 hp0 hf0 => ?_)
 refine go_seq ?_
 refine go_region rfl ?_
 refine go_pure0 Tk rfl rfl rfl ?_
 refine go_nil ?_
 refine go_env [(0, _), (1, _)] ⟨rfl, rfl, trivial⟩ ?_
 refine go_seq ?_
 refine go_region rfl ?_
 refine go_pure0 Tk rfl rfl rfl ?_
 refine go_call (isNaN_u32 _) rfl rfl (by rfl) rfl (by repeat constructor) (by repeat constructor) (fun h => nomatch h) ?_
 rintro _ _ _ ⟨rfl, rfl, rfl⟩
 refine go_pure0 Tk rfl rfl rfl ?_
 refine go_skip0 rfl rfl ?_
 refine go_skip0 rfl rfl ?_
 refine go_skip0 rfl rfl ?_
 refine go_pure0 Tk rfl rfl rfl ?_
 refine go_pure0 Tk rfl rfl rfl ?_
 refine go_pure0 Tk rfl rfl rfl ?_
 refine go_pure0 Tk rfl rfl rfl ?_
 refine go_pure0 Tk rfl rfl rfl ?_
 refine go_pure0 Tk rfl rfl rfl ?_
 refine go_pure0 Tk rfl rfl rfl ?_
 refine go_nil ?_
 refine go_env [(4, _)] ⟨rfl, trivial⟩ ?_
 refine go_ret ⟨rfl, rfl⟩ _ _ (res1 (by rfl) (.tmp rfl)) ⟨rfl, rfl, rfl⟩ (by repeat constructor) (by repeat constructor)

set_option maxHeartbeats 2000000 in
set_option maxRecDepth 20000 in
theorem isortU (A : Option Addr) (c : Nat) (l : List Int) (hn : l.length ≤ 12) :
    Spec Tryz.prog 109 #[.slice A l.length c, .int .i64 0, .int .i64 (l.length : Int)] [] [ol tU 22 A c l] (fun v Ps' Os' => ∃ m, m.Perm l ∧ v = .tuple #[] ∧ Ps' = [] ∧ Os' = [ol tU 22 A c m]) := by
 refine spec_of (fn := Tryz.f109) (args := [.slice A l.length c, .int .i64 0, .int .i64 (l.length : Int)]) 49 Tryz.func109 rfl (by kernel_rfl) Tryz.ntmps109 (Nat.le_of_ble_eq_true rfl) (fun w0 hp0 hf0 => ?_)
 refine go_seq ?_
 refine go_region rfl ?_
 refine go_pure0 Tk rfl rfl rfl ?_
 refine go_pure0 Tk rfl rfl rfl ?_
 refine go_pure0 Tk rfl rfl rfl ?_
 refine go_re 6 (.int .i64 ((1 : Nat) : Int)) rfl ?_
 refine go_nil ?_
 refine go_env [(0, _), (1, _), (2, _), (6, _)] ⟨rfl, rfl, rfl, rfl, trivial⟩ ?_
 refine go_block ?_
 refine go_loop' (X := Nat × List Int) (fun x => [(6, .int .i64 (x.1 : Int))]) [(0, _), (1, _), (2, _)] (fun x => [ol tU 22 A c x.2]) (fun x => x.1 ≤ l.length + 1 ∧ x.2.Perm l) (fun x => l.length + 1 - x.1) ((1, l)) ⟨rfl, rfl, rfl, rfl, trivial⟩ (by repeat constructor) ⟨by omega, .refl _⟩ ?_
 intro ⟨i, xs⟩ ⟨hi, hp⟩
 simp only at hi hp ⊢
 have hxl := hp.length_eq
 refine go_seq ?_
 refine go_seq ?_
 refine go_region rfl ?_
 refine go_pure0 Tk rfl rfl rfl ?_
 refine go_pure0 Tk rfl rfl rfl ?_
 refine go_pure0 Tk rfl rfl rfl ?_
 refine go_nil ?_
 refine go_env [(0, _), (1, _), (2, _), (6, _), (12, _)] ⟨rfl, rfl, rfl, rfl, rfl, trivial⟩ ?_
 refine go_condD rfl ?_ ?_
 ·intro hq1
  refine go_skip ?_
  refine go_seq ?_
  refine go_block ?_
  refine go_seq ?_
  refine go_ol_addr (xs := xs) (by repeat constructor) (by omega) (fun bL hL => ?_); subst hL
  refine go_region rfl ?_
  refine go_pure0 Tk rfl rfl rfl ?_
  refine go_pure0 Tk rfl rfl rfl ?_
  refine go_nil ?_
  refine go_env [(0, _), (1, _), (2, _), (6, _), (7, _)] ⟨rfl, rfl, rfl, rfl, rfl, trivial⟩ ?_
  refine go_block ?_
  refine go_loop' (X := Nat × List Int) (fun x => [(7, .int .i64 (x.1 : Int))]) [(0, _), (1, _), (2, _), (6, _)] (fun x => [ol tU 22 (some ⟨bL, 0, none⟩) c x.2]) (fun x => x.1 ≤ i ∧ x.2.Perm l) (fun x => x.1) ((i, xs)) ⟨rfl, rfl, rfl, rfl, rfl, trivial⟩ (by repeat constructor) ⟨Nat.le_refl _, hp⟩ ?_
  intro ⟨j, ys⟩ ⟨hj, hq⟩
  simp only at hj hq ⊢
  have hyl := hq.length_eq
  refine go_seq ?_
  refine go_seq ?_
  refine go_draw'  [7, 12] (SL.pre [(1, 0), (1, 1), (1, 2), (1, 3), (1, 4), (1, 5), (1, 6), (1, 8), (1, 9), (1, 10), (1, 11), (2, 7), (2, 12), (0, 13), (1, 14)] .nil) mixed rfl (by kernel_rfl) ?_
  refine go_pure1 Tk rfl rfl rfl ?_
  refine go_pure1 Tk rfl rfl rfl ?_
  refine go_pure1 Tk rfl rfl rfl ?_
  refine go_pure1 Tk rfl rfl rfl ?_
  refine go_known 19 rfl ?_ ?_
  ·intro g1
   (try simp only [decide_eq_true_eq, decide_eq_false_iff_not, Bool.not_eq_true', Bool.not_eq_false', Bool.not_eq_eq_eq_not, Bool.not_true, Bool.not_false, Int.not_lt, Int.not_le, beq_iff_eq, beq_eq_false_iff_ne, ne_eq] at g1)
   refine go_pure1 Tk rfl rfl rfl ?_
   refine go_pure1 Tk rfl rfl rfl ?_
   refine go_val1 rfl (idx_val Tk rfl rfl rfl rfl rfl (by omega)) rfl ?_
   refine go_pure1 Tk rfl rfl rfl ?_
   refine go_pure1 Tk rfl rfl rfl ?_
   refine go_pure1 Tk rfl rfl rfl ?_
   refine go_i64 26 rfl (by omega) (by omega) ?_
   refine go_re 26 (.int .i64 ((j - 1 : Nat) : Int)) (by show some (Value.int _ _) = _; rw [show ((j - 1 : Nat) : Int) = (j : Int) - 1 by omega]) ?_
   refine go_val1 rfl (idx_val Tk rfl rfl rfl rfl rfl (by omega)) rfl ?_
   refine go_val2a rfl (load_val (cs := [.int .u32 ys[j]]) Tk rfl rfl rfl (at_ol (fun y : Int => [.int .u32 y]) fc_int 0 (xs := ys) (by repeat constructor) (List.getElem?_eq_getElem (by omega)) rfl) rfl) rfl ?_
   refine go_val2a rfl (load_val (cs := [.int .u32 ys[j - 1]]) Tk rfl rfl rfl (at_ol (fun y : Int => [.int .u32 y]) fc_int 0 (xs := ys) (by repeat constructor) (List.getElem?_eq_getElem (by omega)) rfl) rfl) rfl ?_
   refine go_call (lessU _ _) rfl rfl (by rfl) rfl (by repeat constructor) (by repeat constructor) (fun h => nomatch h) ?_
   rintro _ _ _ ⟨rfl, rfl, rfl⟩
   refine go_pure1 Tk rfl rfl rfl ?_
   refine go_nil ?_
   refine go_env [(0, _), (1, _), (2, _), (6, _), (7, _), (20, _), (21, _), (22, _), (23, _), (24, _), (25, _), (26, _), (27, _), (28, _), (29, _), (30, _)] ⟨rfl, rfl, rfl, rfl, rfl, rfl, rfl, rfl, rfl, rfl, rfl, rfl, rfl, rfl, rfl, rfl, trivial⟩ ?_
   refine go_cond rfl ?_ ?_
   ·intro g2
    (try simp only [decide_eq_true_eq, decide_eq_false_iff_not, Bool.not_eq_true', Bool.not_eq_false', Bool.not_eq_eq_eq_not, Bool.not_true, Bool.not_false, Int.not_lt, Int.not_le, beq_iff_eq, beq_eq_false_iff_ne, ne_eq] at g2)
    refine go_skip ?_
    refine go_seq ?_
    refine go_block ?_
    refine go_draw'  [9, 13] (SL.pre [(1, 0), (1, 1), (1, 2), (1, 3), (1, 4), (1, 5), (1, 6), (1, 7), (1, 8), (1, 10), (1, 11), (1, 12), (2, 9), (2, 13), (1, 14), (0, 15), (1, 16), (0, 17)] .nil) mixed rfl (by kernel_rfl) ?_
    refine go_pure1 Tk rfl rfl rfl ?_
    refine go_pure1 Tk rfl rfl rfl ?_
    refine go_pure1 Tk rfl rfl rfl ?_
    refine go_pure1 Tk rfl rfl rfl ?_
    refine go_pure1 Tk rfl rfl rfl ?_
    refine go_i64 37 rfl (by omega) (by omega) ?_
    refine go_re 37 (.int .i64 ((j - 1 : Nat) : Int)) (by show some (Value.int _ _) = _; rw [show ((j - 1 : Nat) : Int) = (j : Int) - 1 by omega]) ?_
    refine go_pure1 Tk rfl rfl rfl ?_
    refine go_pure1 Tk rfl rfl rfl ?_
    refine go_pure1 Tk rfl rfl rfl ?_
    refine go_i64 40 rfl (by omega) (by omega) ?_
    refine go_re 40 (.int .i64 ((j - 1 : Nat) : Int)) (by show some (Value.int _ _) = _; rw [show ((j - 1 : Nat) : Int) = (j : Int) - 1 by omega]) ?_
    refine go_val1 rfl (idx_val Tk rfl rfl rfl rfl rfl (by omega)) rfl ?_
    refine go_pure1 Tk rfl rfl rfl ?_
    refine go_pure1 Tk rfl rfl rfl ?_
    refine go_val1 rfl (idx_val Tk rfl rfl rfl rfl rfl (by omega)) rfl ?_
    refine go_val2a rfl (load_val (cs := [.int .u32 ys[j - 1]]) Tk rfl rfl rfl (at_ol (fun y : Int => [.int .u32 y]) fc_int 0 (xs := ys) (by repeat constructor) (List.getElem?_eq_getElem (by omega)) rfl) rfl) rfl ?_
    refine go_val2a rfl (load_val (cs := [.int .u32 ys[j]]) Tk rfl rfl rfl (at_ol (fun y : Int => [.int .u32 y]) fc_int 0 (xs := ys) (by repeat constructor) (List.getElem?_eq_getElem (by omega)) rfl) rfl) rfl ?_
    refine go_val1 rfl (idx_val Tk rfl rfl rfl rfl rfl (by omega)) rfl ?_
    refine go_store_el (T := tU) (xs := ys) (j := j) Tk (ys[j - 1]) rfl rfl rfl rfl rfl rfl (by repeat constructor) (by omega) rfl rfl ent_int (fun h => nomatch (Eq.symm h).trans (show _ = false by kernel_rfl)) ?_
    refine go_val1 rfl (idx_val Tk rfl rfl rfl rfl rfl (by omega)) rfl ?_
    refine go_store_el (T := tU) (xs := ys.set j ys[j - 1]) (j := j - 1) Tk (ys[j]) rfl rfl rfl rfl rfl rfl (by repeat constructor) (by rw [List.length_set]; omega) rfl rfl ent_int (fun h => nomatch (Eq.symm h).trans (show _ = false by kernel_rfl)) ?_
    refine go_nil ?_
    refine go_env [(0, _), (1, _), (2, _), (6, _), (7, _), (20, _), (21, _), (22, _), (23, _), (24, _), (25, _), (26, _), (27, _), (28, _), (29, _)] ⟨rfl, rfl, rfl, rfl, rfl, rfl, rfl, rfl, rfl, rfl, rfl, rfl, rfl, rfl, rfl, trivial⟩ ?_
    refine go_blk ?_
    refine go_region rfl ?_
    refine go_pure0 Tk rfl rfl rfl ?_
    refine go_pure0 Tk rfl rfl rfl ?_
    refine go_pure0 Tk rfl rfl rfl ?_
    refine go_i64 7 rfl (by omega) (by omega) ?_
    refine go_re 7 (.int .i64 ((j - 1 : Nat) : Int)) (by show some (Value.int _ _) = _; rw [show ((j - 1 : Nat) : Int) = (j : Int) - 1 by omega]) ?_
    refine go_nil ?_
    refine go_back (j - 1, (ys.set j ys[j - 1]).set (j - 1) ys[j]) ⟨rfl, rfl, rfl, rfl, rfl, trivial⟩ (by repeat constructor) (by repeat constructor) ⟨by show j - 1 ≤ i; omega, (List.set_set_perm _ _).trans hq⟩ (by show j - 1 < j; omega)
   ·intro g2
    (try simp only [decide_eq_true_eq, decide_eq_false_iff_not, Bool.not_eq_true', Bool.not_eq_false', Bool.not_eq_eq_eq_not, Bool.not_true, Bool.not_false, Int.not_lt, Int.not_le, beq_iff_eq, beq_eq_false_iff_ne, ne_eq] at g2)
    refine go_exit rfl ?_
    refine go_blk ?_
    refine go_region rfl ?_
    refine go_pure0 Tk rfl rfl rfl ?_
    refine go_pure0 Tk rfl rfl rfl ?_
    refine go_pure0 Tk rfl rfl rfl ?_
    refine go_nil ?_
    refine go_i64 6 rfl (by omega) (by omega) ?_
    refine go_back (i + 1, ys) ⟨rfl, rfl, rfl, rfl, trivial⟩ (by repeat constructor) (by repeat constructor) ⟨by show i + 1 ≤ _; omega, hq⟩ (by show l.length + 1 - (i + 1) < l.length + 1 - i; omega)
  ·intro g1
   (try simp only [decide_eq_true_eq, decide_eq_false_iff_not, Bool.not_eq_true', Bool.not_eq_false', Bool.not_eq_eq_eq_not, Bool.not_true, Bool.not_false, Int.not_lt, Int.not_le, beq_iff_eq, beq_eq_false_iff_ne, ne_eq] at g1)
   refine go_skip1 rfl rfl ?_
   refine go_skip1 rfl rfl ?_
   refine go_skip1 rfl rfl ?_
   refine go_skip1 rfl rfl ?_
   refine go_skip1 rfl rfl ?_
   refine go_skip1 rfl rfl ?_
   refine go_skip1 rfl rfl ?_
   refine go_skip2 rfl (by repeat constructor) (by repeat constructor) rfl ?_
   refine go_skip2 rfl (by repeat constructor) (by repeat constructor) rfl ?_
   refine go_skip0 rfl rfl ?_
   refine go_pure1 Tk rfl rfl rfl ?_
   refine go_nil ?_
   refine go_env [(0, _), (1, _), (2, _), (6, _), (7, _), (20, _), (21, _), (22, _), (23, _), (24, _), (25, _), (26, _), (27, _), (28, _), (29, _), (30, _)] ⟨rfl, rfl, rfl, rfl, rfl, rfl, rfl, rfl, rfl, rfl, rfl, rfl, rfl, rfl, rfl, rfl, trivial⟩ ?_
   refine go_cond_f rfl ?_
   refine go_exit rfl ?_
   refine go_blk ?_
   refine go_region rfl ?_
   refine go_pure0 Tk rfl rfl rfl ?_
   refine go_pure0 Tk rfl rfl rfl ?_
   refine go_pure0 Tk rfl rfl rfl ?_
   refine go_nil ?_
   refine go_i64 6 rfl (by omega) (by omega) ?_
   refine go_back (i + 1, ys) ⟨rfl, rfl, rfl, rfl, trivial⟩ (by repeat constructor) (by repeat constructor) ⟨by show i + 1 ≤ _; omega, hq⟩ (by show l.length + 1 - (i + 1) < l.length + 1 - i; omega)
 ·intro hq1
  refine go_exit rfl ?_
  refine go_end ⟨rfl, rfl⟩ _ _ (res0 (by rfl)) ⟨xs, hp, rfl, rfl, rfl⟩ (by repeat constructor) (by repeat constructor)

end Go.Proofs.YtkhddfknpegpmaaGreat.SL

/- Contracts of functions of the program (Safec): what each call comes to, for the laws' proofs. -/
set_option linter.unusedVariables false
set_option linter.unusedSimpArgs false
namespace Go.Proofs.YtkhddfknpegpmaaGreat.SL
open Go 

set_option maxHeartbeats 2000000 in
set_option maxRecDepth 20000 in
theorem pdqU (A : Option Addr) (c : Nat) (l : List Int) (r : Int) (hn : l.length ≤ 12) :
    Spec Tryz.prog 107 #[.slice A l.length c, .int .i64 0, .int .i64 (l.length : Int), .int .i64 r] [] [ol tU 22 A c l] (fun v Ps' Os' => ∃ m, m.Perm l ∧ v = .tuple #[] ∧ Ps' = [] ∧ Os' = [ol tU 22 A c m]) := by
 refine spec_of (fn := Tryz.f107) (args := [.slice A l.length c, .int .i64 0, .int .i64 (l.length : Int), .int .i64 r]) 134 Tryz.func107 rfl (by kernel_rfl) Tryz.ntmps107 (Nat.le_of_ble_eq_true rfl) (fun w0 hp0 hf0 => ?_)
 refine go_seq ?_
 refine go_region rfl ?_
 refine go_pure0 Tk rfl rfl rfl ?_
 refine go_nil ?_
 refine go_env [(0, _), (1, _), (2, _), (3, _), (8, _)] ⟨rfl, rfl, rfl, rfl, rfl, trivial⟩ ?_
 refine go_seq ?_
 refine go_region rfl ?_
 refine go_pure0 Tk rfl rfl rfl ?_
 refine go_nil ?_
 refine go_env [(0, _), (1, _), (2, _), (3, _), (8, _), (9, _)] ⟨rfl, rfl, rfl, rfl, rfl, rfl, trivial⟩ ?_
 refine go_block ?_
 refine go_loop' (X := Unit) (fun _ => [(0, .slice A l.length c), (1, .int .i64 0), (2, .int .i64 (l.length : Int)), (3, .int .i64 r), (8, .bool true), (9, .bool true)]) [] (fun _ => []) (fun _ => True) (fun _ => 0) (()) ⟨rfl, rfl, rfl, rfl, rfl, rfl, trivial⟩ (by repeat constructor) trivial ?_
 intro ⟨⟩ hJ
 refine go_block ?_
 refine go_seq ?_
 refine go_region rfl ?_
 refine go_pure0 Tk rfl rfl rfl ?_
 refine go_pure0 Tk rfl rfl rfl ?_
 refine go_pure0 Tk rfl rfl rfl ?_
 refine go_i64 21 rfl (by omega) (by omega) ?_
 refine go_pure0 Tk rfl rfl rfl ?_
 refine go_nil ?_
 refine go_env [(0, _), (1, _), (2, _), (3, _), (8, _), (9, _), (10, _)] ⟨rfl, rfl, rfl, rfl, rfl, rfl, rfl, trivial⟩ ?_
 refine go_seq ?_
 refine go_seq ?_
 refine go_region rfl ?_
 refine go_pure0 Tk rfl rfl rfl ?_
 refine go_pure0 Tk rfl rfl rfl ?_
 refine go_re 23 (.bool true) (by show some (Value.bool _) = _; rw [decide_eq_true (by omega)]) ?_
 refine go_nil ?_
 refine go_env [(0, _), (1, _), (2, _), (3, _), (8, _), (9, _), (10, _), (23, _)] ⟨rfl, rfl, rfl, rfl, rfl, rfl, rfl, rfl, trivial⟩ ?_
 refine go_cond_t rfl ?_
 refine go_seq ?_
 refine go_region rfl ?_
 refine go_pure0 Tk rfl rfl rfl ?_
 refine go_pure0 Tk rfl rfl rfl ?_
 refine go_pure0 Tk rfl rfl rfl ?_
 refine go_call (isortU A c l hn) rfl rfl (by rfl) rfl (by repeat constructor) (by repeat constructor) (fun h => nomatch h) ?_
 rintro _ _ _ ⟨m, hm, rfl, rfl, rfl⟩
 refine go_nil ?_
 refine go_env [] trivial ?_
 refine go_ret ⟨rfl, rfl⟩ _ _ (res0 (by rfl)) ⟨m, hm, rfl, rfl, rfl⟩ (by repeat constructor) (by repeat constructor)

open Go.Shelf Go.RowKit Go.Lib in
def Tryz.lays125_ren : Go.Shelf.Ren := ⟨fun | 125 => 108 | 128 => 118 | 129 => 119 | n => n, fun | 46 => 128 | 3 => 3 | 51 => 22 | 53 => 160 | 4 => 4 | 5 => 5 | 9 => 9 | n => n, fun | n => n⟩
open Go.Shelf Go.RowKit Go.Lib in
theorem Tryz.lays125 : Go.Proofs.Lays.n125 Tryz.prog Tryz.lays125_ren := {
  mixed := by kernel_rfl
  f125 := Tryz.func108.trans (congrArg some (by kernel_rfl))
  f128 := Tryz.func118.trans (congrArg some (by kernel_rfl))
  f129 := Tryz.func119.trans (congrArg some (by kernel_rfl))
  t3 := Tryz.underlying3
  a3 := Tryz.isAgg3
  z3 := Tryz.sizeOf3
  v3 := Tryz.zeroValue3
  t4 := Tryz.underlying4
  a4 := Tryz.isAgg4
  z4 := Tryz.sizeOf4
  v4 := Tryz.zeroValue4
  t5 := Tryz.underlying5
  a5 := Tryz.isAgg5
  z5 := Tryz.sizeOf5
  v5 := Tryz.zeroValue5
  t9 := Tryz.underlying9
  a9 := Tryz.isAgg9
  z9 := Tryz.sizeOf9
  v9 := Tryz.zeroValue9
  t46 := Tryz.underlying128
  a46 := Tryz.isAgg128
  z46 := Tryz.sizeOf128
  v46 := Tryz.zeroValue128
  t51 := Tryz.underlying22
  a51 := Tryz.isAgg22
  z51 := Tryz.sizeOf22
  v51 := Tryz.zeroValue22
  t53 := Tryz.underlying160
  a53 := Tryz.isAgg160
  z53 := Tryz.sizeOf160
  v53 := Tryz.zeroValue160 }

theorem bitsLen (x : Int) (h0 : 0 ≤ x) (h1 : x ≤ 18446744073709551615) : Spec Tryz.prog 108 #[.int .u64 x] [] [] (fun v Ps' Os' => v = .int .i64 (Lib.bitLen x.toNat) ∧ Ps' = [] ∧ Os' = []) := by
  refine ⟨⟨_, Tryz.func108, by kernel_rfl, by kernel_rfl⟩, fun w hp ho hf hs hfw d1 d2 => ?_⟩
  have hcon := Any.bits_Len Tryz.lays125 x w h0 h1
  change Calls Tryz.prog 108 _ _ _ at hcon
  refine hcon.mono ?_
  rintro e w' ⟨rfl, rfl⟩
  exact ⟨_, hp, ho, [], [], rfl, ⟨rfl, rfl, rfl⟩, hs, Heap.le_refl _, hfw, d1, d2, .refl _⟩

set_option maxHeartbeats 2000000 in
set_option maxRecDepth 20000 in
theorem sortU (A : Option Addr) (c : Nat) (l : List Int) (hn : l.length ≤ 12) :
    Spec Tryz.prog 98 #[.slice A l.length c] [] [ol tU 22 A c l] (fun v Ps' Os' => ∃ m, m.Perm l ∧ v = .tuple #[] ∧ Ps' = [] ∧ Os' = [ol tU 22 A c m]) := by
 refine spec_of (fn := Tryz.f98) (args := [.slice A l.length c]) 11 Tryz.func98 rfl (by kernel_rfl) Tryz.ntmps98 (Nat.le_of_ble_eq_true rfl) (fun w0 hp0 hf0 => ?_)
 refine go_seq ?_
 refine go_len_ol (xs := l) (by repeat constructor) (fun l0 m0 => ?_)
 refine go_region rfl ?_
 refine go_pure0 Tk rfl rfl rfl ?_
 refine go_pure0 Tk rfl rfl rfl ?_
 refine go_pure0 Tk rfl rfl rfl ?_
 refine go_nil ?_
 refine go_env [(0, _), (2, _)] ⟨rfl, rfl, trivial⟩ ?_
 refine go_region rfl ?_
 refine go_pure0 Tk rfl rfl rfl ?_
 refine go_pure0 Tk rfl rfl rfl ?_
 refine go_pure0 Tk rfl rfl rfl ?_
 refine go_pure0 Tk rfl rfl rfl ?_
 refine go_re 8 (.int .u64 (l.length : Int)) (by show some (Value.int _ _) = _; rw [wrap_u64 (by omega)]) ?_
 refine go_call (bitsLen (l.length : Int) (by omega) (by omega)) rfl rfl (by rfl) rfl (by repeat constructor) (by repeat constructor) (fun h => nomatch h) ?_
 rintro _ _ _ ⟨rfl, rfl, rfl⟩
 refine go_call (pdqU A c l _ hn) rfl rfl (by rfl) rfl (by repeat constructor) (by repeat constructor) (fun h => nomatch h) ?_
 rintro _ _ _ ⟨m, hm, rfl, rfl, rfl⟩
 refine go_nil ?_
 refine go_end ⟨rfl, rfl⟩ _ _ (res0 (by rfl)) ⟨m, hm, rfl, rfl, rfl⟩ (by repeat constructor) (by repeat constructor)

set_option maxHeartbeats 2000000 in
set_option maxRecDepth 20000 in
theorem compactU (A : Option Addr) (c : Nat) (l : List Int) (hn : l.length ≤ 1000000) :
    Spec Tryz.prog 99 #[.slice A l.length c] [] [ol tU 22 A c l] (fun v Ps' Os' => ∃ m, (∀ x, x ∈ m ↔ x ∈ l) ∧ m.length ≤ l.length ∧ v = .slice A m.length c ∧ Ps' = [] ∧ Os' = [ol tU 22 A c m]) := by
 refine spec_of (fn := Tryz.f99) (args := [.slice A l.length c]) 61 Tryz.func99 rfl (by kernel_rfl) Tryz.ntmps99 (Nat.le_of_ble_eq_true rfl) (fun w0 hp0 hf0 => ?_)
 refine go_seq ?_
 refine go_len_ol (xs := l) (by repeat constructor) (fun l0 m0 => ?_)
 refine go_region rfl ?_
 refine go_pure0 Tk rfl rfl rfl ?_
 refine go_nil ?_
 refine go_env [(0, _)] ⟨rfl, trivial⟩ ?_
 refine go_seq ?_
 refine go_seq ?_
 refine go_region rfl ?_
 refine go_pure0 Tk rfl rfl rfl ?_
 refine go_pure0 Tk rfl rfl rfl ?_
 refine go_pure0 Tk rfl rfl rfl ?_
 refine go_nil ?_
 refine go_env [(0, _), (8, _)] ⟨rfl, rfl, trivial⟩ ?_
 refine go_condD rfl ?_ ?_
 ·intro h1
  refine go_seq ?_
  refine go_region rfl ?_
  refine go_pure0 Tk rfl rfl rfl ?_
  refine go_pure0 Tk rfl rfl rfl ?_
  refine go_nil ?_
  refine go_env [(2, _)] ⟨rfl, trivial⟩ ?_
  refine go_ret ⟨rfl, rfl⟩ _ _ (res1 (by rfl) (.tmp rfl)) ⟨l, fun _ => .rfl, Nat.le_refl _, rfl, rfl, rfl⟩ (by repeat constructor) (by repeat constructor)
 ·intro h1
  refine go_ol_addr (xs := l) (by repeat constructor) (by omega) (fun bL hL => ?_); subst hL
  refine go_skip ?_
  refine go_seq ?_
  refine go_seq ?_
  refine go_region rfl ?_
  refine go_pure0 Tk rfl rfl rfl ?_
  refine go_nil ?_
  refine go_env [(0, _), (3, _)] ⟨rfl, rfl, trivial⟩ ?_
  refine go_block ?_
  refine go_loop' (X := Nat) (fun k => [(3, .int .i64 (k : Int))]) [(0, _)] (fun _ => []) (fun k => k ≤ l.length ∧ 1 ≤ k) (fun k => l.length - k) (1) ⟨rfl, rfl, trivial⟩ (by repeat constructor) ⟨by omega, by omega⟩ ?_
  intro k ⟨hk, hk1⟩
  refine go_seq ?_
  refine go_seq ?_
  refine go_region rfl ?_
  refine go_pure0 Tk rfl rfl rfl ?_
  refine go_pure0 Tk rfl rfl rfl ?_
  refine go_pure0 Tk rfl rfl rfl ?_
  refine go_pure0 Tk rfl rfl rfl ?_
  refine go_nil ?_
  refine go_env [(0, _), (3, _), (13, _)] ⟨rfl, rfl, rfl, trivial⟩ ?_
  refine go_condD rfl ?_ ?_
  ·intro hq1
   refine go_skip ?_
   refine go_seq ?_
   refine go_block ?_
   refine go_seq ?_
   refine go_draw'  [3, 8] (SL.pre [(1, 0), (1, 1), (1, 2), (1, 4), (1, 5), (1, 6), (1, 7), (2, 3), (2, 8), (1, 9)] .nil) mixed rfl (by kernel_rfl) ?_
   refine go_pure1 Tk rfl rfl rfl ?_
   refine go_pure1 Tk rfl rfl rfl ?_
   refine go_val1 rfl (idx_val Tk rfl rfl rfl rfl rfl (by omega)) rfl ?_
   refine go_pure1 Tk rfl rfl rfl ?_
   refine go_pure1 Tk rfl rfl rfl ?_
   refine go_pure1 Tk rfl rfl rfl ?_
   refine go_i64 22 rfl (by omega) (by omega) ?_
   refine go_re 22 (.int .i64 ((k - 1 : Nat) : Int)) (by show some (Value.int _ _) = _; rw [show ((k - 1 : Nat) : Int) = (k : Int) - 1 by omega]) ?_
   refine go_val1 rfl (idx_val Tk rfl rfl rfl rfl rfl (by omega)) rfl ?_
   refine go_val2a rfl (load_val (cs := [.int .u32 l[k]]) Tk rfl rfl rfl (at_olp (fun y : Int => [.int .u32 y]) fc_int (xs := l) (by repeat constructor) (k) (List.getElem?_eq_getElem (by omega)) rfl rfl) rfl) rfl ?_
   refine go_val2a rfl (load_val (cs := [.int .u32 l[k - 1]]) Tk rfl rfl rfl (at_olp (fun y : Int => [.int .u32 y]) fc_int (xs := l) (by repeat constructor) (k - 1) (List.getElem?_eq_getElem (by omega)) rfl rfl) rfl) rfl ?_
   refine go_pure1 Tk rfl rfl rfl ?_
   refine go_nil ?_
   refine go_env [(0, _), (3, _), (25, _)] ⟨rfl, rfl, rfl, trivial⟩ ?_
   refine go_condD rfl ?_ ?_
   ·intro g1
    refine go_seq ?_
    refine go_region rfl ?_
    refine go_pure0 Tk rfl rfl rfl ?_
    refine go_pure0 Tk rfl rfl rfl ?_
    refine go_val0 rfl (slice_val' Tk rfl rfl rfl rfl k l.length c (.slice (some ⟨bL, 0 + k * 1, none⟩) (l.length - k) (c - k)) (by first | rfl | exact ⟨_, rfl⟩ | exact ⟨rfl, rfl⟩) (by first | rfl | exact ⟨_, rfl⟩ | exact ⟨rfl, rfl⟩) (by first | rfl | exact ⟨_, rfl⟩ | exact ⟨rfl, rfl⟩) (by omega) (by omega) (by omega) (by rw [subN (by omega)]; rfl)) rfl ?_
    refine go_pure0 Tk rfl rfl rfl ?_
    refine go_nil ?_
    refine go_env [(0, _), (3, _), (4, _)] ⟨rfl, rfl, rfl, trivial⟩ ?_
    refine go_seq ?_
    refine go_seq ?_
    refine go_region rfl ?_
    refine go_pure0 Tk rfl rfl rfl ?_
    refine go_nil ?_
    refine go_env [(0, _), (3, _), (4, _), (5, _)] ⟨rfl, rfl, rfl, rfl, trivial⟩ ?_
    refine go_block ?_
    refine go_loop' (X := Nat × Nat × List Int) (fun x => [(3, .int .i64 (x.1 : Int)), (5, .int .i64 (x.2.1 : Int))]) [(0, _), (4, _)] (fun x => [ol tU 22 (some ⟨bL, 0, none⟩) c x.2.2]) (fun x => CmpI l x.2.2 k x.1 x.2.1) (fun x => l.length - x.2.1) ((k, 1, l)) ⟨rfl, rfl, rfl, rfl, trivial⟩ (by repeat constructor) (CmpI.start hk1 (by omega) g1) ?_
    intro ⟨m, i, ys⟩ hC
    simp only at hC ⊢
    have hC1 := hC.len
    have hC2 := hC.lo
    have hC3 := hC.hi
    have hC4 := hC.i1
    have hC5 := hC.i2
    refine go_seq ?_
    refine go_seq ?_
    refine go_region rfl ?_
    refine go_pure0 Tk rfl rfl rfl ?_
    refine go_pure0 Tk rfl rfl rfl ?_
    refine go_pure0 Tk rfl rfl rfl ?_
    refine go_pure0 Tk rfl rfl rfl ?_
    refine go_nil ?_
    refine go_env [(0, _), (3, _), (4, _), (5, _), (32, _)] ⟨rfl, rfl, rfl, rfl, rfl, trivial⟩ ?_
    refine go_condD rfl ?_ ?_
    ·intro hq2
     refine go_skip ?_
     refine go_seq ?_
     refine go_block ?_
     refine go_seq ?_
     refine go_draw'  [3, 8] (SL.pre [(1, 0), (1, 1), (1, 2), (1, 4), (1, 5), (1, 6), (1, 7), (2, 3), (2, 8), (1, 9)] .nil) mixed rfl (by kernel_rfl) ?_
     refine go_pure1 Tk rfl rfl rfl ?_
     refine go_pure1 Tk rfl rfl rfl ?_
     refine go_val1 rfl (idx_val Tk rfl rfl rfl rfl rfl (by omega)) rfl ?_
     refine go_pure1 Tk rfl rfl rfl ?_
     refine go_pure1 Tk rfl rfl rfl ?_
     refine go_pure1 Tk rfl rfl rfl ?_
     refine go_i64 41 rfl (by omega) (by omega) ?_
     refine go_re 41 (.int .i64 ((i - 1 : Nat) : Int)) (by show some (Value.int _ _) = _; rw [show ((i - 1 : Nat) : Int) = (i : Int) - 1 by omega]) ?_
     refine go_val1 rfl (idx_val Tk rfl rfl rfl rfl rfl (by omega)) rfl ?_
     refine go_val2a rfl (load_val (cs := [.int .u32 ys[k + i]]) Tk rfl rfl rfl (at_olp (fun y : Int => [.int .u32 y]) fc_int (xs := ys) (by repeat constructor) (k + i) (List.getElem?_eq_getElem (by omega)) (by show 0 + k * 1 + i * 1 = 0 + (k + i) * 1; omega) rfl) rfl) rfl ?_
     refine go_val2a rfl (load_val (cs := [.int .u32 ys[k + i - 1]]) Tk rfl rfl rfl (at_olp (fun y : Int => [.int .u32 y]) fc_int (xs := ys) (by repeat constructor) (k + i - 1) (List.getElem?_eq_getElem (by omega)) (by show 0 + k * 1 + (i - 1) * 1 = 0 + (k + i - 1) * 1; omega) rfl) rfl) rfl ?_
     refine go_pure1 Tk rfl rfl rfl ?_
     refine go_nil ?_
     refine go_env [(0, _), (3, _), (4, _), (5, _), (44, _)] ⟨rfl, rfl, rfl, rfl, rfl, trivial⟩ ?_
     refine go_condN rfl ?_ ?_
     ·intro g2
      refine go_seq ?_
      refine go_region rfl ?_
      refine go_pure0 Tk rfl rfl rfl ?_
      refine go_pure0 Tk rfl rfl rfl ?_
      refine go_pure0 Tk rfl rfl rfl ?_
      refine go_pure0 Tk rfl rfl rfl ?_
      refine go_val0 rfl (idx_val Tk rfl rfl rfl rfl rfl (by omega)) rfl ?_
      refine go_val0 rfl (load_val (cs := [.int .u32 ys[k + i]]) Tk rfl rfl rfl (at_olp (fun y : Int => [.int .u32 y]) fc_int (xs := ys) (by repeat constructor) (k + i) (List.getElem?_eq_getElem (by omega)) (by show 0 + k * 1 + i * 1 = 0 + (k + i) * 1; omega) rfl) rfl) rfl ?_
      refine go_val0 rfl (idx_val Tk rfl rfl rfl rfl rfl (by omega)) rfl ?_
      refine go_store_el (T := tU) (xs := ys) (j := m) Tk (ys[k + i]) rfl rfl rfl rfl rfl rfl (by repeat constructor) (by omega) rfl rfl ent_int (fun h => nomatch h) ?_
      refine go_nil ?_
      refine go_env [(0, _), (3, _), (4, _), (5, _)] ⟨rfl, rfl, rfl, rfl, trivial⟩ ?_
      refine go_region rfl ?_
      refine go_pure0 Tk rfl rfl rfl ?_
      refine go_pure0 Tk rfl rfl rfl ?_
      refine go_i64 53 rfl (by omega) (by omega) ?_
      refine go_pure0 Tk rfl rfl rfl ?_
      refine go_nil ?_
      refine go_env [(0, _), (3, _), (4, _), (5, _)] ⟨rfl, rfl, rfl, rfl, trivial⟩ ?_
      refine go_blk ?_
      refine go_region rfl ?_
      refine go_pure0 Tk rfl rfl rfl ?_
      refine go_pure0 Tk rfl rfl rfl ?_
      refine go_pure0 Tk rfl rfl rfl ?_
      refine go_nil ?_
      refine go_i64 5 rfl (by omega) (by omega) ?_
      refine go_back (m + 1, i + 1, ys.set m ys[k + i]) ⟨rfl, rfl, rfl, rfl, trivial⟩ (by repeat constructor) (by repeat constructor) (hC.keep (by omega)) (by show l.length - (i + 1) < l.length - i; omega)
     ·intro g2
      have g3 : l[k + i] = l[k + i - 1] := by rw [← hC.get (k + i) (by omega) (by omega), ← hC.get (k + i - 1) (by omega) (by omega)]; exact g2
      refine go_skip ?_
      refine go_blk ?_
      refine go_region rfl ?_
      refine go_pure0 Tk rfl rfl rfl ?_
      refine go_pure0 Tk rfl rfl rfl ?_
      refine go_pure0 Tk rfl rfl rfl ?_
      refine go_nil ?_
      refine go_i64 5 rfl (by omega) (by omega) ?_
      refine go_back (m, i + 1, ys) ⟨rfl, rfl, rfl, rfl, trivial⟩ (by repeat constructor) (by repeat constructor) (hC.skip (by omega) g3) (by show l.length - (i + 1) < l.length - i; omega)
    ·intro hq2
     refine go_exit rfl ?_
     refine go_seq ?_
     have hfin := hC.done (by omega)
     refine go_ol_open (xs := ys) (by repeat constructor) (by omega) (fun b0 cs cur hA h1 h2 h3 h4 h5 => ?_); cases hA
     have hms : m * tU.size ≤ l.length * tU.size := Nat.mul_le_mul_right _ (by omega)
     have hms2 : m * tU.size ≤ ys.length * tU.size := Nat.mul_le_mul_right _ (by omega)
     have hmc : l.length * tU.size ≤ c * tU.size := Nat.mul_le_mul_right _ (by omega)
     refine go_region rfl ?_
     refine go_pure0 Tk rfl rfl rfl ?_
     refine go_pure0 Tk rfl rfl rfl ?_
     refine go_val0 rfl (slice_val' Tk rfl rfl rfl rfl m l.length c (.slice (some ⟨bL, 0 + m * tU.size, none⟩) (l.length - m) (c - m)) (by first | rfl | exact ⟨_, rfl⟩ | exact ⟨rfl, rfl⟩) (by first | rfl | exact ⟨_, rfl⟩ | exact ⟨rfl, rfl⟩) (by first | rfl | exact ⟨_, rfl⟩ | exact ⟨rfl, rfl⟩) (by omega) (by omega) (by omega) (by rw [subN (by omega)]; rfl)) rfl ?_
     refine go_clear Tk rfl rfl rfl rfl rfl rfl rfl rfl (by repeat constructor) (by show 0 + m * tU.size + (l.length - m) * tU.size ≤ _; rw [Nat.sub_mul]; omega) (fun h => nomatch h) ?_
     intro zs hzs
     have hzs2 : 0 + m * tU.size + zs.length ≤ cur.length := by rw [hzs]; show 0 + m * tU.size + (l.length - m) * tU.size ≤ _; rw [Nat.sub_mul]; omega
     refine go_rps (cs.take (m * tU.size)) (xs := ys) (by repeat constructor) (fun _ q => q.head (m := m) (by omega)) ?_
     refine go_ol_close (ys.take m) (by repeat constructor) (by repeat constructor) (by rw [putS_len hzs2]; exact h1) (by rw [List.length_take, Nat.min_eq_left (by omega), putS_low hzs2 (by omega), ← h2, List.take_take, Nat.min_eq_left (by omega)]) (by rw [List.length_take]; omega) h4 ?_
     have hml : m = (ys.take m).length := by rw [List.length_take]; omega
     refine go_nil ?_
     refine go_env [(0, _), (3, _)] ⟨rfl, rfl, trivial⟩ ?_
     refine go_seq ?_
     refine go_region rfl ?_
     refine go_pure0 Tk rfl rfl rfl ?_
     refine go_pure0 Tk rfl rfl rfl ?_
     refine go_val0 rfl (slice_val' Tk rfl rfl rfl rfl 0 m c (.slice (some ⟨bL, 0, none⟩) (ys.take m).length c) (by first | rfl | exact ⟨_, rfl⟩ | exact ⟨rfl, rfl⟩) (by first | rfl | exact ⟨_, rfl⟩ | exact ⟨rfl, rfl⟩) (by first | rfl | exact ⟨_, rfl⟩ | exact ⟨rfl, rfl⟩) (by omega) (by omega) (by omega) (by rw [sub0, ← hml]; rfl)) rfl ?_
     refine go_pure0 Tk rfl rfl rfl ?_
     refine go_nil ?_
     refine go_env [(2, _)] ⟨rfl, trivial⟩ ?_
     refine go_ret ⟨rfl, rfl⟩ _ _ (res1 (by rfl) (.tmp rfl)) ⟨ys.take m, hfin, by rw [← hml]; omega, rfl, rfl, rfl⟩ (by repeat constructor) (by repeat constructor)
   ·intro g1
    refine go_skip ?_
    refine go_blk ?_
    refine go_region rfl ?_
    refine go_pure0 Tk rfl rfl rfl ?_
    refine go_pure0 Tk rfl rfl rfl ?_
    refine go_pure0 Tk rfl rfl rfl ?_
    refine go_nil ?_
    refine go_i64 3 rfl (by omega) (by omega) ?_
    refine go_back (k + 1) ⟨rfl, rfl, trivial⟩ (by repeat constructor) (by repeat constructor) (⟨by omega, by omega⟩) (by omega)
  ·intro hq1
   refine go_exit rfl ?_
   refine go_seq ?_
   refine go_region rfl ?_
   refine go_pure0 Tk rfl rfl rfl ?_
   refine go_pure0 Tk rfl rfl rfl ?_
   refine go_nil ?_
   refine go_env [(2, _)] ⟨rfl, trivial⟩ ?_
   refine go_ret ⟨rfl, rfl⟩ _ _ (res1 (by rfl) (.tmp rfl)) ⟨l, fun _ => .rfl, Nat.le_refl _, rfl, rfl, rfl⟩ (by repeat constructor) (by repeat constructor)

set_option maxHeartbeats 2000000 in
set_option maxRecDepth 20000 in
theorem varsA (a : Am) (AA : Option Addr) (ac : Nat) (hn : a.a.length ≤ 12) :
    Spec Tryz.prog 80 #[.agg #[.int .u32 a.p, .slice AA a.a.length ac]] [sl tTm AA ac a.a] [] (fun v Ps' Os' => ∃ A c vs, v = .slice A vs.length c ∧ (∀ x, x ∈ vs ↔ x ∈ vars a) ∧ vs.length ≤ 12 ∧ Ps' = [sl tU A c vs] ∧ Os' = []) := by
 refine spec_of (fn := Tryz.f80) (args := [.agg #[.int .u32 a.p, .slice AA a.a.length ac]]) 25 Tryz.func80 rfl (by kernel_rfl) Tryz.ntmps80 (Nat.le_of_ble_eq_true rfl) (fun w0 hp0 hf0 => ?_)
 refine go_seq ?_
 refine go_region rfl ?_
 refine go_box Tk rfl rfl rfl rfl (by rfl) rfl rfl (fun h => nomatch h) ?_
 intro b1
 refine go_pure0 Tk rfl rfl rfl ?_
 refine go_nil ?_
 refine go_env [(1, _)] ⟨rfl, trivial⟩ ?_
 refine go_seq ?_
 refine go_region rfl ?_
 refine go_pure0 Tk rfl rfl rfl ?_
 refine go_nil ?_
 refine go_env [(1, _), (3, _)] ⟨rfl, rfl, trivial⟩ ?_
 refine go_seq ?_
 refine go_seq ?_
 refine go_len (xs := a.a) (by repeat constructor) (fun l0 m0 => ?_)
 refine go_own_nil tU 22 none ?_
 rw [show ([] : List Int) = vars ⟨a.p, a.a.take 0⟩ from rfl]
 refine go_region rfl ?_
 refine go_pure0 Tk rfl rfl rfl ?_
 refine go_val0 rfl (ldv Tk rfl rfl rfl) rfl ?_
 refine go_pure0 Tk rfl rfl rfl ?_
 refine go_pure0 Tk rfl rfl rfl ?_
 refine go_nil ?_
 refine go_env [(3, _), (7, _), (8, _), (9, _)] ⟨rfl, rfl, rfl, rfl, trivial⟩ ?_
 refine go_block ?_
 refine go_loop' (X := Nat × Option Addr × Nat) (fun x => [(3, .slice x.2.1 (vars ⟨a.p, a.a.take x.1⟩).length x.2.2), (9, .int .i64 (x.1 : Int))]) [(7, _), (8, _)] (fun x => [ol tU 22 x.2.1 x.2.2 (vars ⟨a.p, a.a.take x.1⟩)]) (fun x => x.1 ≤ a.a.length) (fun x => a.a.length - x.1) ((0, none, 0)) ⟨rfl, rfl, rfl, rfl, trivial⟩ (by repeat constructor) (by omega) ?_
 intro ⟨k, A1, c1⟩ hk
 simp only at hk ⊢
 have hvl := vars_len a k
 refine go_seq ?_
 refine go_region rfl ?_
 refine go_pure0 Tk rfl rfl rfl ?_
 refine go_nil ?_
 refine go_env [(3, _), (7, _), (8, _), (9, _), (10, _)] ⟨rfl, rfl, rfl, rfl, rfl, trivial⟩ ?_
 refine go_seq ?_
 refine go_condD rfl ?_ ?_
 ·intro hq1
  refine go_skip ?_
  refine go_seq ?_
  refine go_block ?_
  refine go_seq ?_
  refine go_elem_tm (xs := a.a) (by repeat constructor) (k) (List.getElem?_eq_getElem (by omega)) (fun b0 o0 hA => ?_); cases hA
  refine go_region rfl ?_
  refine go_val0 rfl (idx_val Tk rfl rfl rfl rfl rfl (by omega)) rfl ?_
  refine go_val0 rfl (ldv Tk rfl rfl rfl) rfl ?_
  refine go_alloc Tk rfl rfl rfl (by rfl) rfl rfl (fun h => nomatch h) ?_
  intro b2
  refine go_store Tk rfl rfl rfl rfl rfl rfl (by repeat constructor) rfl rfl (by rfl) (fun h => nomatch h) ?_
  refine go_nil ?_
  refine go_env [(3, _), (5, _), (7, _), (8, _), (9, _)] ⟨rfl, rfl, rfl, rfl, rfl, trivial⟩ ?_
  refine go_seq ?_
  refine go_region rfl ?_
  refine go_pure0 Tk rfl rfl rfl ?_
  refine go_val0 rfl (ldv Tk rfl rfl rfl) rfl ?_
  refine go_nil ?_
  refine go_env [(3, _), (5, _), (7, _), (8, _), (9, _), (14, _)] ⟨rfl, rfl, rfl, rfl, rfl, rfl, trivial⟩ ?_
  refine go_cond rfl ?_ ?_
  ·intro g1
   (try simp only [decide_eq_true_eq, decide_eq_false_iff_not, Bool.not_eq_true', Bool.not_eq_false', Bool.not_eq_eq_eq_not, Bool.not_true, Bool.not_false, Int.not_lt, Int.not_le, beq_iff_eq, beq_eq_false_iff_ne, ne_eq] at g1)
   refine go_region rfl ?_
   refine go_pure0 Tk rfl rfl rfl ?_
   refine go_pure0 Tk rfl rfl rfl ?_
   refine go_val0 rfl (ldv Tk rfl rfl rfl) rfl ?_
   refine go_bslice Tk rfl rfl rfl rfl rfl rfl rfl rfl (fun h => nomatch h) ?_
   intro b3
   refine go_append1 (T := tU) (xs := vars ⟨a.p, a.a.take k⟩) Tk (a.a[k].n) rfl rfl rfl rfl rfl rfl rfl rfl rfl (by repeat constructor) (by repeat constructor) rfl ent_int (by omega) (by first | exact (fun _ _ _ => satA) | exact (fun h => nomatch h) | exact (fun h => nomatch (Eq.symm h).trans (show _ = false by kernel_rfl))) ?_
   intro A3 c3
   refine go_pure0 Tk rfl rfl rfl ?_
   refine go_nil ?_
   refine go_env [(3, _), (7, _), (8, _), (9, _)] ⟨rfl, rfl, rfl, rfl, trivial⟩ ?_
   refine go_blk ?_
   refine go_region rfl ?_
   refine go_pure0 Tk rfl rfl rfl ?_
   refine go_pure0 Tk rfl rfl rfl ?_
   refine go_nil ?_
   refine go_i64 9 rfl (by omega) (by omega) ?_
   have hnx := vars_yes (a := a) (k := k) (by omega) g1
   rw [← hnx]
   refine go_back (k + 1, A3, c3) ⟨rfl, rfl, rfl, rfl, trivial⟩ (by repeat constructor) (by repeat constructor) (by show k + 1 ≤ _; omega) (by show a.a.length - (k + 1) < a.a.length - k; omega)
  ·intro g1
   (try simp only [decide_eq_true_eq, decide_eq_false_iff_not, Bool.not_eq_true', Bool.not_eq_false', Bool.not_eq_eq_eq_not, Bool.not_true, Bool.not_false, Int.not_lt, Int.not_le, beq_iff_eq, beq_eq_false_iff_ne, ne_eq] at g1)
   refine go_skip ?_
   refine go_blk ?_
   refine go_region rfl ?_
   refine go_pure0 Tk rfl rfl rfl ?_
   refine go_pure0 Tk rfl rfl rfl ?_
   refine go_nil ?_
   refine go_i64 9 rfl (by omega) (by omega) ?_
   have hnx := vars_no (a := a) (k := k) (by omega) g1
   rw [← hnx]
   refine go_back (k + 1, A1, c1) ⟨rfl, rfl, rfl, rfl, trivial⟩ (by repeat constructor) (by repeat constructor) (by show k + 1 ≤ _; omega) (by show a.a.length - (k + 1) < a.a.length - k; omega)
 ·intro hq1
  refine go_exit rfl ?_
  refine go_seq ?_
  have htk : a.a.take k = a.a := List.take_of_length_le (by omega)
  have hv12 := vars_len a k
  refine go_region rfl ?_
  refine go_pure0 Tk rfl rfl rfl ?_
  refine go_call (sortU A1 c1 (vars ⟨a.p, a.a.take k⟩) (by omega)) rfl rfl (by rfl) rfl (by repeat constructor) (by repeat constructor) (fun h => nomatch h) ?_
  rintro _ _ _ ⟨m1, hm1, rfl, rfl, rfl⟩
  have hm1l := hm1.length_eq
  refine go_nil ?_
  refine go_env [(3, _)] ⟨rfl, trivial⟩ ?_
  refine go_seq ?_
  refine go_re 3 (.slice A1 m1.length c1) (by show some (Value.slice _ _ _) = _; rw [hm1l]) ?_
  refine go_region rfl ?_
  refine go_pure0 Tk rfl rfl rfl ?_
  refine go_call (compactU A1 c1 m1 (by omega)) rfl rfl (by rfl) rfl (by repeat constructor) (by repeat constructor) (fun h => nomatch h) ?_
  rintro _ _ _ ⟨m2, hm2, hl2, rfl, rfl, rfl⟩
  refine go_freeze_ol (xs := m2) (by repeat constructor) ?_
  refine go_pure0 Tk rfl rfl rfl ?_
  refine go_nil ?_
  refine go_env [(2, _)] ⟨rfl, trivial⟩ ?_
  refine go_ret ⟨rfl, rfl⟩ _ _ (res1 (by rfl) (.tmp rfl)) ⟨A1, c1, m2, rfl, fun x => by rw [hm2, hm1.mem_iff, htk], by omega, rfl, rfl⟩ (by repeat constructor) (by repeat constructor)

end Go.Proofs.YtkhddfknpegpmaaGreat.SL

/- Contracts of functions of the program (Safed): what each call comes to, for the laws' proofs. -/
set_option linter.unusedVariables false
set_option linter.unusedSimpArgs false
namespace Go.Proofs.YtkhddfknpegpmaaGreat.SL
open Go 

set_option maxHeartbeats 2000000 in
set_option maxRecDepth 20000 in
theorem safeHeld1 (bm b : Nat) (m : List (Int × Value)) (st : List Int) (hm : Ones m st) (a : Am) (AA : Option Addr) (ac : Nat) (hn : a.a.length ≤ 12) :
    Spec Tryz.prog 81 #[.agg #[.int .u32 a.p, .slice AA a.a.length ac], .pointer (some ⟨bm, 0, none⟩)] [cl bm 0 [.map (some b)], sl tTm AA ac a.a] [mapO b .u32 m] (fun v Ps' Os' => v = .bool ((vars a).all fun v => decide (v ∈ st)) ∧ Ps' = [] ∧ Os' = [mapO b .u32 m]) := by
 refine spec_of (fn := Tryz.f81) (args := [.agg #[.int .u32 a.p, .slice AA a.a.length ac], .pointer (some ⟨bm, 0, none⟩)]) 18 Tryz.func81 rfl (by kernel_rfl) Tryz.ntmps81 (Nat.le_of_ble_eq_true rfl) (fun w0 hp0 hf0 => ?_)
 refine go_seq ?_
 refine go_region rfl ?_
 refine go_box Tk rfl rfl rfl rfl (by rfl) rfl rfl (fun h => nomatch h) ?_
 intro b1
 refine go_pure0 Tk rfl rfl rfl ?_
 refine go_nil ?_
 refine go_env [(1, _), (2, _)] ⟨rfl, rfl, trivial⟩ ?_
 refine go_seq ?_
 refine go_seq ?_
 refine go_region rfl ?_
 refine go_val0 rfl (ldv Tk rfl rfl rfl) rfl ?_
 refine go_call (varsA a AA ac hn) rfl rfl (by rfl) rfl (by repeat constructor) (by repeat constructor) (fun h => nomatch h) ?_
 rintro _ _ _ ⟨A1, c1, vs, rfl, hvs, hvl, rfl, rfl⟩
 refine go_pure0 Tk rfl rfl rfl ?_
 refine go_pure0 Tk rfl rfl rfl ?_
 refine go_nil ?_
 refine go_env [(1, _), (7, _), (8, _), (9, _)] ⟨rfl, rfl, rfl, rfl, trivial⟩ ?_
 refine go_block ?_
 refine go_loop' (X := Nat) (fun k => [(9, .int .i64 (k : Int))]) [(1, _), (7, _), (8, _)] (fun _ => []) (fun k => k ≤ vs.length ∧ ∀ x ∈ vs.take k, x ∈ st) (fun k => vs.length - k) (0) ⟨rfl, rfl, rfl, rfl, trivial⟩ (by repeat constructor) ⟨by omega, by simp⟩ ?_
 intro k ⟨hk, hz⟩
 refine go_seq ?_
 refine go_region rfl ?_
 refine go_pure0 Tk rfl rfl rfl ?_
 refine go_nil ?_
 refine go_env [(1, _), (7, _), (8, _), (9, _), (10, _)] ⟨rfl, rfl, rfl, rfl, rfl, trivial⟩ ?_
 refine go_seq ?_
 refine go_condD rfl ?_ ?_
 ·intro hq1
  refine go_skip ?_
  refine go_seq ?_
  refine go_block ?_
  refine go_seq ?_
  refine go_elem_int (xs := vs) (by repeat constructor) (k) (List.getElem?_eq_getElem (by omega)) (fun b o hA => ?_); cases hA
  refine go_region rfl ?_
  refine go_val0 rfl (idx_val Tk rfl rfl rfl rfl rfl (by omega)) rfl ?_
  refine go_val0 rfl (ldv Tk rfl rfl rfl) rfl ?_
  refine go_pure0 Tk rfl rfl rfl ?_
  refine go_nil ?_
  refine go_env [(1, _), (5, _), (7, _), (8, _), (9, _)] ⟨rfl, rfl, rfl, rfl, rfl, trivial⟩ ?_
  refine go_seq ?_
  refine go_region rfl ?_
  refine go_val0 rfl (ldv Tk rfl rfl rfl) rfl ?_
  refine go_pure0 Tk rfl rfl rfl ?_
  refine go_val0 rfl (lookup_val (m := m) (n := vs[k]) (c := false) (v := (mget m vs[k]).getD (.int .i64 0)) Tk rfl rfl rfl rfl rfl rfl (by repeat constructor) rfl) rfl ?_
  refine go_re 15 (.int .i64 (if vs[k] ∈ st then 1 else 0)) (by show some _ = some _; rw [hm]; split <;> rfl) ?_
  refine go_pure0 Tk rfl rfl rfl ?_
  refine go_nil ?_
  refine go_env [(1, _), (7, _), (8, _), (9, _), (16, _)] ⟨rfl, rfl, rfl, rfl, rfl, trivial⟩ ?_
  refine go_condD rfl ?_ ?_
  ·intro g0
   have g1 : vs[k] ∉ st := fun h => by rw [if_pos h] at g0; cases g0
   refine go_seq ?_
   refine go_region rfl ?_
   refine go_pure0 Tk rfl rfl rfl ?_
   refine go_nil ?_
   refine go_env [(3, _)] ⟨rfl, trivial⟩ ?_
   refine go_ret ⟨rfl, rfl⟩ _ _ (res1 (by rfl) (.tmp rfl)) ⟨congrArg Value.bool (Eq.symm (List.all_eq_false.2 ⟨vs[k], (hvs _).1 (List.getElem_mem _), by simpa using g1⟩)), rfl, rfl⟩ (by repeat constructor) (by repeat constructor)
  ·intro g0
   have g1 : vs[k] ∈ st := Decidable.byContradiction fun h => g0 (if_neg h)
   refine go_skip ?_
   refine go_blk ?_
   refine go_region rfl ?_
   refine go_pure0 Tk rfl rfl rfl ?_
   refine go_pure0 Tk rfl rfl rfl ?_
   refine go_nil ?_
   refine go_i64 9 rfl (by omega) (by omega) ?_
   refine go_back (k + 1) ⟨rfl, rfl, rfl, rfl, trivial⟩ (by repeat constructor) (by repeat constructor) (⟨by omega, fun x hx => ((mem_take_succ (by omega) x).1 hx).elim (hz x) (fun e => by rw [e]; exact g1)⟩) (by omega)
 ·intro hq1
  refine go_exit rfl ?_
  refine go_seq ?_
  refine go_region rfl ?_
  refine go_pure0 Tk rfl rfl rfl ?_
  refine go_nil ?_
  refine go_env [(3, _)] ⟨rfl, trivial⟩ ?_
  refine go_ret ⟨rfl, rfl⟩ _ _ (res1 (by rfl) (.tmp rfl)) ⟨congrArg Value.bool (Eq.symm (List.all_eq_true.2 fun x hx => by rw [List.take_of_length_le (by omega)] at hz; simpa using hz x ((hvs x).2 hx))), rfl, rfl⟩ (by repeat constructor) (by repeat constructor)

set_option maxHeartbeats 2000000 in
set_option maxRecDepth 20000 in
theorem safeFits (b : Nat) (m : List (Int × Value)) (L : Lens) (hm : Lens.Is m L) (p n : Int) :
    Spec Tryz.prog 82 #[.map (some b), .int .u32 p, .int .i64 n] [] [mapO b .u32 m] (fun v Ps' Os' => ∃ m', Lens.Is m' (learn L p n) ∧ v = .bool (fitB L p n) ∧ Ps' = [] ∧ Os' = [mapO b .u32 m']) := by
 refine spec_of (fn := Tryz.f82) (args := [.map (some b), .int .u32 p, .int .i64 n]) 27 Tryz.func82 rfl (by kernel_rfl) Tryz.ntmps82 (Nat.le_of_ble_eq_true rfl) (fun w0 hp0 hf0 => ?_)
 refine go_seq ?_
 by_cases h0 : L p = none
 ·skip
  refine go_region rfl ?_
  refine go_pure0 Tk rfl rfl rfl ?_
  refine go_nil ?_
  refine go_env [(0, _), (1, _), (2, _)] ⟨rfl, rfl, rfl, trivial⟩ ?_
  refine go_seq ?_
  refine go_region rfl ?_
  refine go_pure0 Tk rfl rfl rfl ?_
  refine go_pure0 Tk rfl rfl rfl ?_
  refine go_val0 rfl (lookup_val (m := m) (n := p) (c := true) (v := .tuple #[(mget m p).getD (.int .i64 0), .bool (mget m p).isSome]) Tk rfl rfl rfl rfl rfl rfl (by repeat constructor) rfl) rfl ?_
  refine go_pure0 Tk rfl rfl rfl ?_
  refine go_pure0 Tk rfl rfl rfl ?_
  refine go_re 13 (.int .i64 0) (by show some _ = some _; rw [hm, h0]; rfl) ?_
  refine go_pure0 Tk rfl rfl rfl ?_
  refine go_re 14 (.bool false) (by show some (Value.bool _) = _; rw [hm, h0]; rfl) ?_
  refine go_pure0 Tk rfl rfl rfl ?_
  refine go_pure0 Tk rfl rfl rfl ?_
  refine go_nil ?_
  refine go_env [(0, _), (1, _), (2, _), (7, _), (8, _)] ⟨rfl, rfl, rfl, rfl, rfl, trivial⟩ ?_
  refine go_seq ?_
  refine go_seq ?_
  refine go_region rfl ?_
  refine go_pure0 Tk rfl rfl rfl ?_
  refine go_pure0 Tk rfl rfl rfl ?_
  refine go_nil ?_
  refine go_env [(0, _), (1, _), (2, _), (7, _), (8, _), (16, _)] ⟨rfl, rfl, rfl, rfl, rfl, rfl, trivial⟩ ?_
  refine go_cond_t rfl ?_
  refine go_region rfl ?_
  refine go_pure0 Tk rfl rfl rfl ?_
  refine go_pure0 Tk rfl rfl rfl ?_
  refine go_pure0 Tk rfl rfl rfl ?_
  refine go_mset Tk rfl rfl rfl rfl rfl rfl rfl rfl (by repeat constructor) (fun h => nomatch h) ?_
  refine go_nil ?_
  refine go_env [(2, _), (7, _), (8, _)] ⟨rfl, rfl, rfl, trivial⟩ ?_
  refine go_seq ?_
  refine go_region rfl ?_
  refine go_pure0 Tk rfl rfl rfl ?_
  refine go_pure0 Tk rfl rfl rfl ?_
  refine go_pure0 Tk rfl rfl rfl ?_
  refine go_skip0 rfl rfl ?_
  refine go_skip0 rfl rfl ?_
  refine go_skip0 rfl rfl ?_
  refine go_pure0 Tk rfl rfl rfl ?_
  refine go_pure0 Tk rfl rfl rfl ?_
  refine go_nil ?_
  refine go_env [(6, _)] ⟨rfl, trivial⟩ ?_
  refine go_ret ⟨rfl, rfl⟩ _ _ (res1 (by rfl) (.tmp rfl)) ⟨_, hm.new h0 n, by unfold fitB; rw [h0], rfl, rfl⟩ (by repeat constructor) (by repeat constructor)
 ·skip
  obtain ⟨w, hw⟩ := Option.ne_none_iff_exists'.1 h0
  refine go_region rfl ?_
  refine go_pure0 Tk rfl rfl rfl ?_
  refine go_nil ?_
  refine go_env [(0, _), (1, _), (2, _)] ⟨rfl, rfl, rfl, trivial⟩ ?_
  refine go_seq ?_
  refine go_region rfl ?_
  refine go_pure0 Tk rfl rfl rfl ?_
  refine go_pure0 Tk rfl rfl rfl ?_
  refine go_val0 rfl (lookup_val (m := m) (n := p) (c := true) (v := .tuple #[(mget m p).getD (.int .i64 0), .bool (mget m p).isSome]) Tk rfl rfl rfl rfl rfl rfl (by repeat constructor) rfl) rfl ?_
  refine go_pure0 Tk rfl rfl rfl ?_
  refine go_pure0 Tk rfl rfl rfl ?_
  refine go_re 13 (.int .i64 w) (by show some _ = some _; rw [hm, hw]; rfl) ?_
  refine go_pure0 Tk rfl rfl rfl ?_
  refine go_re 14 (.bool true) (by show some (Value.bool _) = _; rw [hm, hw]; rfl) ?_
  refine go_pure0 Tk rfl rfl rfl ?_
  refine go_pure0 Tk rfl rfl rfl ?_
  refine go_nil ?_
  refine go_env [(0, _), (1, _), (2, _), (7, _), (8, _)] ⟨rfl, rfl, rfl, rfl, rfl, trivial⟩ ?_
  refine go_seq ?_
  refine go_seq ?_
  refine go_region rfl ?_
  refine go_pure0 Tk rfl rfl rfl ?_
  refine go_pure0 Tk rfl rfl rfl ?_
  refine go_nil ?_
  refine go_env [(0, _), (1, _), (2, _), (7, _), (8, _), (16, _)] ⟨rfl, rfl, rfl, rfl, rfl, rfl, trivial⟩ ?_
  refine go_cond_f rfl ?_
  refine go_skip ?_
  refine go_seq ?_
  refine go_region rfl ?_
  refine go_pure0 Tk rfl rfl rfl ?_
  refine go_pure0 Tk rfl rfl rfl ?_
  refine go_pure0 Tk rfl rfl rfl ?_
  refine go_pure0 Tk rfl rfl rfl ?_
  refine go_pure0 Tk rfl rfl rfl ?_
  refine go_pure0 Tk rfl rfl rfl ?_
  refine go_pure0 Tk rfl rfl rfl ?_
  refine go_pure0 Tk rfl rfl rfl ?_
  refine go_nil ?_
  refine go_env [(6, _)] ⟨rfl, trivial⟩ ?_
  refine go_ret ⟨rfl, rfl⟩ _ _ (res1 (by rfl) (.tmp rfl)) ⟨m, by rw [learn_old hw]; exact hm, by unfold fitB; rw [hw], rfl, rfl⟩ (by repeat constructor) (by repeat constructor)

set_option maxHeartbeats 2000000 in
set_option maxRecDepth 20000 in
theorem safeClause (b : Nat) (m : List (Int × Value)) (L : Lens) (hm : Lens.Is m L) (c : Cl) (CA : Option Addr) (cc : Nat) (CB : Option Addr) (cd : Nat) :
    Spec Tryz.prog 63 #[.map (some b), .agg #[.int .u32 c.h.p, .slice CA c.h.a.length cc, .slice CB c.b.length cd]] [sl tTm CA cc c.h.a, sl tLi CB cd c.b] [mapO b .u32 m] (fun v Ps' Os' => ∃ m', Lens.Is m' (clauseL L c).2 ∧ v = .bool (clauseL L c).1 ∧ Ps' = [] ∧ Os' = [mapO b .u32 m']) := by
 refine spec_of (fn := Tryz.f63) (args := [.map (some b), .agg #[.int .u32 c.h.p, .slice CA c.h.a.length cc, .slice CB c.b.length cd]]) 38 Tryz.func63 rfl (by kernel_rfl) Tryz.ntmps63 (Nat.le_of_ble_eq_true rfl) (fun w0 hp0 hf0 => ?_)
 refine go_seq ?_
 refine go_region rfl ?_
 refine go_box Tk rfl rfl rfl rfl (by rfl) rfl rfl (fun h => nomatch h) ?_
 intro b1
 refine go_pure0 Tk rfl rfl rfl ?_
 refine go_nil ?_
 refine go_env [(0, _), (3, _)] ⟨rfl, rfl, trivial⟩ ?_
 refine go_seq ?_
 refine go_len (xs := c.h.a) (by repeat constructor) (fun lh mh => ?_)
 refine go_region rfl ?_
 refine go_pure0 Tk rfl rfl rfl ?_
 refine go_pure0 Tk rfl rfl rfl ?_
 refine go_pure0 Tk rfl rfl rfl ?_
 refine go_val0 rfl (ldv Tk rfl rfl rfl) rfl ?_
 refine go_pure0 Tk rfl rfl rfl ?_
 refine go_pure0 Tk rfl rfl rfl ?_
 refine go_val0 rfl (ldv Tk rfl rfl rfl) rfl ?_
 refine go_pure0 Tk rfl rfl rfl ?_
 refine go_call (safeFits b m L hm c.h.p c.h.a.length) rfl rfl (by rfl) rfl (by repeat constructor) (by repeat constructor) (fun h => nomatch h) ?_
 rintro _ _ _ ⟨m1, hm1, rfl, rfl, rfl⟩
 refine go_pure0 Tk rfl rfl rfl ?_
 refine go_nil ?_
 refine go_re 5 (.bool (clauseL L ⟨c.h, c.b.take 0⟩).1) (by show some (Value.bool _) = some (Value.bool _); unfold clauseL; simp [stepL]) ?_
 refine go_env [(0, _), (3, _), (5, _)] ⟨rfl, rfl, rfl, trivial⟩ ?_
 refine go_seq ?_
 refine go_seq ?_
 refine go_len (xs := c.b) (by repeat constructor) (fun l0 m0 => ?_)
 refine go_region rfl ?_
 refine go_pure0 Tk rfl rfl rfl ?_
 refine go_val0 rfl (ldv Tk rfl rfl rfl) rfl ?_
 refine go_pure0 Tk rfl rfl rfl ?_
 refine go_pure0 Tk rfl rfl rfl ?_
 refine go_nil ?_
 refine go_env [(0, _), (5, _), (18, _), (19, _), (20, _)] ⟨rfl, rfl, rfl, rfl, rfl, trivial⟩ ?_
 refine go_block ?_
 refine go_loop' (X := Nat × List (Int × Value)) (fun x => [(5, .bool (clauseL L ⟨c.h, c.b.take x.1⟩).1), (20, .int .i64 (x.1 : Int))]) [(0, _), (18, _), (19, _)] (fun x => [mapO b .u32 x.2]) (fun x => x.1 ≤ c.b.length ∧ Lens.Is x.2 (clauseL L ⟨c.h, c.b.take x.1⟩).2) (fun x => c.b.length - x.1) ((0, m1)) ⟨rfl, rfl, rfl, rfl, rfl, trivial⟩ (by repeat constructor) ⟨by omega, hm1⟩ ?_
 intro ⟨k, m2⟩ ⟨hk, hm2⟩
 simp only at hk hm2 ⊢
 refine go_seq ?_
 refine go_region rfl ?_
 refine go_pure0 Tk rfl rfl rfl ?_
 refine go_nil ?_
 refine go_env [(0, _), (5, _), (18, _), (19, _), (20, _), (21, _)] ⟨rfl, rfl, rfl, rfl, rfl, rfl, trivial⟩ ?_
 refine go_seq ?_
 refine go_condD rfl ?_ ?_
 ·intro hq1
  refine go_skip ?_
  refine go_seq ?_
  refine go_block ?_
  refine go_seq ?_
  refine go_elem_li (xs := c.b) (by repeat constructor) (k) (List.getElem?_eq_getElem (by omega)) (fun b0 o0 A0 c0 hA => ?_); cases hA
  refine go_len (xs := c.b[k].a.a) (by repeat constructor) (fun ll ml => ?_)
  refine go_region rfl ?_
  refine go_val0 rfl (idx_val Tk rfl rfl rfl rfl rfl (by omega)) rfl ?_
  refine go_val0 rfl (ldv Tk rfl rfl rfl) rfl ?_
  refine go_alloc Tk rfl rfl rfl (by rfl) rfl rfl (fun h => nomatch h) ?_
  intro b2
  refine go_store Tk rfl rfl rfl rfl rfl rfl (by repeat constructor) rfl rfl (by rfl) (fun h => nomatch h) ?_
  refine go_nil ?_
  refine go_env [(0, _), (5, _), (7, _), (18, _), (19, _), (20, _)] ⟨rfl, rfl, rfl, rfl, rfl, rfl, trivial⟩ ?_
  refine go_region rfl ?_
  refine go_pure0 Tk rfl rfl rfl ?_
  refine go_pure0 Tk rfl rfl rfl ?_
  refine go_pure0 Tk rfl rfl rfl ?_
  refine go_val0 rfl (ldv Tk rfl rfl rfl) rfl ?_
  refine go_pure0 Tk rfl rfl rfl ?_
  refine go_pure0 Tk rfl rfl rfl ?_
  refine go_val0 rfl (ldv Tk rfl rfl rfl) rfl ?_
  refine go_pure0 Tk rfl rfl rfl ?_
  refine go_call (safeFits b m2 _ hm2 c.b[k].a.p c.b[k].a.a.length) rfl rfl (by rfl) rfl (by repeat constructor) (by repeat constructor) (fun h => nomatch h) ?_
  rintro _ _ _ ⟨m3, hm3, rfl, rfl, rfl⟩
  refine go_pure0 Tk rfl rfl rfl ?_
  refine go_known 33 rfl ?_ ?_
  ·intro g1
   (try simp only [decide_eq_true_eq, decide_eq_false_iff_not, Bool.not_eq_true', Bool.not_eq_false', Bool.not_eq_eq_eq_not, Bool.not_true, Bool.not_false, Int.not_lt, Int.not_le, beq_iff_eq, beq_eq_false_iff_ne, ne_eq] at g1)
   refine go_pure0 Tk rfl rfl rfl ?_
   refine go_pure0 Tk rfl rfl rfl ?_
   refine go_pure0 Tk rfl rfl rfl ?_
   refine go_nil ?_
   refine go_re 5 (.bool (clauseL L ⟨c.h, c.b.take (k + 1)⟩).1) (by show some (Value.bool _) = some (Value.bool _); rw [clause_next (by omega)]; unfold stepL; simp only [g1, Bool.true_and, Bool.false_and]) ?_
   refine go_env [(0, _), (5, _), (18, _), (19, _), (20, _), (34, _)] ⟨rfl, rfl, rfl, rfl, rfl, rfl, trivial⟩ ?_
   refine go_blk ?_
   refine go_region rfl ?_
   refine go_pure0 Tk rfl rfl rfl ?_
   refine go_pure0 Tk rfl rfl rfl ?_
   refine go_nil ?_
   refine go_i64 20 rfl (by omega) (by omega) ?_
   refine go_back (k + 1, m3) ⟨rfl, rfl, rfl, rfl, rfl, trivial⟩ (by repeat constructor) (by repeat constructor) ⟨by show k + 1 ≤ _; omega, by show Lens.Is m3 _; rw [clause_next (by omega)]; exact hm3⟩ (by show c.b.length - (k + 1) < c.b.length - k; omega)
  ·intro g1
   (try simp only [decide_eq_true_eq, decide_eq_false_iff_not, Bool.not_eq_true', Bool.not_eq_false', Bool.not_eq_eq_eq_not, Bool.not_true, Bool.not_false, Int.not_lt, Int.not_le, beq_iff_eq, beq_eq_false_iff_ne, ne_eq] at g1)
   refine go_skip0 rfl rfl ?_
   refine go_pure0 Tk rfl rfl rfl ?_
   refine go_pure0 Tk rfl rfl rfl ?_
   refine go_nil ?_
   refine go_re 5 (.bool (clauseL L ⟨c.h, c.b.take (k + 1)⟩).1) (by show some (Value.bool _) = some (Value.bool _); rw [clause_next (by omega)]; unfold stepL; simp only [g1, Bool.true_and, Bool.false_and]) ?_
   refine go_env [(0, _), (5, _), (18, _), (19, _), (20, _), (34, _)] ⟨rfl, rfl, rfl, rfl, rfl, rfl, trivial⟩ ?_
   refine go_blk ?_
   refine go_region rfl ?_
   refine go_pure0 Tk rfl rfl rfl ?_
   refine go_pure0 Tk rfl rfl rfl ?_
   refine go_nil ?_
   refine go_i64 20 rfl (by omega) (by omega) ?_
   refine go_back (k + 1, m3) ⟨rfl, rfl, rfl, rfl, rfl, trivial⟩ (by repeat constructor) (by repeat constructor) ⟨by show k + 1 ≤ _; omega, by show Lens.Is m3 _; rw [clause_next (by omega)]; exact hm3⟩ (by show c.b.length - (k + 1) < c.b.length - k; omega)
 ·intro hq1
  refine go_exit rfl ?_
  refine go_seq ?_
  refine go_region rfl ?_
  refine go_pure0 Tk rfl rfl rfl ?_
  refine go_pure0 Tk rfl rfl rfl ?_
  refine go_nil ?_
  refine go_env [(4, _)] ⟨rfl, trivial⟩ ?_
  refine go_ret ⟨rfl, rfl⟩ _ _ (res1 (by rfl) (.tmp rfl)) ⟨m2, by rw [List.take_of_length_le (by omega)] at hm2; exact hm2, by rw [List.take_of_length_le (by omega)], rfl, rfl⟩ (by repeat constructor) (by repeat constructor)

end Go.Proofs.YtkhddfknpegpmaaGreat.SL

/- Contracts of functions of the program (Safee): what each call comes to, for the laws' proofs. -/
set_option linter.unusedVariables false
set_option linter.unusedSimpArgs false
namespace Go.Proofs.YtkhddfknpegpmaaGreat.SL
open Go 

set_option maxHeartbeats 2000000 in
set_option maxRecDepth 20000 in
theorem safeLiterals (c : Cl) (CA : Option Addr) (cc : Nat) (CB : Option Addr) (cd : Nat) (nt : Bool) :
    Spec Tryz.prog 79 #[.agg #[.int .u32 c.h.p, .slice CA c.h.a.length cc, .slice CB c.b.length cd], .bool nt] [] [] (fun v Ps' Os' => ∃ bC bN, v = .func (.func 97) #[] #[.pointer (some ⟨bC, 0, none⟩), .pointer (some ⟨bN, 0, none⟩)] ∧ Ps' = [cl bC 0 [.int .u32 c.h.p, .slice CA c.h.a.length cc, .slice CB c.b.length cd], cl bN 0 [.bool nt]] ∧ Os' = []) := by
 refine spec_of (fn := Tryz.f79) (args := [.agg #[.int .u32 c.h.p, .slice CA c.h.a.length cc, .slice CB c.b.length cd], .bool nt]) 6 Tryz.func79 rfl (by kernel_rfl) Tryz.ntmps79 (Nat.le_of_ble_eq_true rfl) (fun w0 hp0 hf0 => ?_)
 refine go_seq ?_
 refine go_region rfl ?_
 refine go_box Tk rfl rfl rfl rfl (by rfl) rfl rfl (fun h => nomatch h) ?_
 intro bC
 refine go_box Tk rfl rfl rfl rfl (by rfl) rfl rfl (fun h => nomatch h) ?_
 intro bN
 refine go_freeze_pt (b := bC) (by repeat constructor) ?_
 refine go_freeze_pt (b := bN) (by repeat constructor) ?_
 refine go_pure0 Tk rfl rfl rfl ?_
 refine go_nil ?_
 refine go_env [(2, _), (3, _)] ⟨rfl, rfl, trivial⟩ ?_
 refine go_seq ?_
 refine go_region rfl ?_
 refine go_pure0 Tk rfl rfl rfl ?_
 refine go_pure0 Tk rfl rfl rfl ?_
 refine go_nil ?_
 refine go_env [(4, _)] ⟨rfl, trivial⟩ ?_
 refine go_ret ⟨rfl, rfl⟩ _ _ (res1 (by rfl) (.tmp rfl)) ⟨bC, bN, rfl, rfl, rfl⟩ (by repeat constructor) (by repeat constructor)

set_option maxHeartbeats 2000000 in
set_option maxRecDepth 20000 in
theorem literals1 (ly bC bN : Nat) (R : List Ax → OA) (hY : Yld Tryz.prog ly encA pxA R) (c : Cl) (CA : Option Addr) (cc : Nat) (CB : Option Addr) (cd : Nat) (nt : Bool) (hb : ∀ l ∈ c.b, l.a.a.length ≤ 12) :
    Spec Tryz.prog 97 #[.func (.yield ly) #[] #[], .pointer (some ⟨bC, 0, none⟩), .pointer (some ⟨bN, 0, none⟩)] [cl bC 0 [.int .u32 c.h.p, .slice CA c.h.a.length cc, .slice CB c.b.length cd], cl bN 0 [.bool nt], sl tTm CA cc c.h.a, sl tLi CB cd c.b] [R []] (fun v Ps' Os' => ∃ xs : List Ax, xs.map (·.1) = litsOf c.b nt ∧ Ps' = [] ∧ Os' = [R xs]) := by
 refine spec_of (fn := Tryz.f97) (args := [.func (.yield ly) #[] #[], .pointer (some ⟨bC, 0, none⟩), .pointer (some ⟨bN, 0, none⟩)]) 25 Tryz.func97 rfl (by kernel_rfl) Tryz.ntmps97 (Nat.le_of_ble_eq_true rfl) (fun w0 hp0 hf0 => ?_)
 refine go_seq ?_
 refine go_len (xs := c.b) (by repeat constructor) (fun l0 m0 => ?_)
 refine go_region rfl ?_
 refine go_pure0 Tk rfl rfl rfl ?_
 refine go_val0 rfl (ldv Tk rfl rfl rfl) rfl ?_
 refine go_pure0 Tk rfl rfl rfl ?_
 refine go_pure0 Tk rfl rfl rfl ?_
 refine go_nil ?_
 refine go_env [(0, _), (2, _), (7, _), (8, _), (9, _)] ⟨rfl, rfl, rfl, rfl, rfl, trivial⟩ ?_
 refine go_block ?_
 refine go_loop' (X := Nat × List Ax) (fun x => [(9, .int .i64 (x.1 : Int))]) [(0, _), (2, _), (7, _), (8, _)] (fun x => [R x.2]) (fun x => x.1 ≤ c.b.length ∧ x.2.map (·.1) = litsOf (c.b.take x.1) nt) (fun x => c.b.length - x.1) ((0, [])) ⟨rfl, rfl, rfl, rfl, rfl, trivial⟩ (by repeat constructor) ⟨by omega, rfl⟩ ?_
 intro ⟨k, D⟩ ⟨hk, hD⟩
 simp only at hk hD ⊢
 refine go_seq ?_
 refine go_region rfl ?_
 refine go_pure0 Tk rfl rfl rfl ?_
 refine go_nil ?_
 refine go_env [(0, _), (2, _), (7, _), (8, _), (9, _), (10, _)] ⟨rfl, rfl, rfl, rfl, rfl, rfl, trivial⟩ ?_
 refine go_seq ?_
 refine go_condD rfl ?_ ?_
 ·intro hq1
  refine go_skip ?_
  refine go_seq ?_
  refine go_block ?_
  refine go_seq ?_
  refine go_elem_li (xs := c.b) (by repeat constructor) (k) (List.getElem?_eq_getElem (by omega)) (fun b0 o0 A0 c0 hA => ?_); cases hA
  refine go_ent (PA.and (c.b[k].a.a.length ≤ 12) (sl tTm A0 c0 c.b[k].a.a)) (fun hh a => ⟨hb _ (List.getElem_mem _), a (sl tTm A0 c0 c.b[k].a.a) (by repeat constructor)⟩) ?_
  refine go_region rfl ?_
  refine go_val0 rfl (idx_val Tk rfl rfl rfl rfl rfl (by omega)) rfl ?_
  refine go_val0 rfl (ldv Tk rfl rfl rfl) rfl ?_
  refine go_alloc Tk rfl rfl rfl (by rfl) rfl rfl (fun h => nomatch h) ?_
  intro b1
  refine go_store Tk rfl rfl rfl rfl rfl rfl (by repeat constructor) rfl rfl (by rfl) (fun h => nomatch h) ?_
  refine go_nil ?_
  refine go_env [(0, _), (2, _), (5, _), (7, _), (8, _), (9, _)] ⟨rfl, rfl, rfl, rfl, rfl, rfl, trivial⟩ ?_
  refine go_seq ?_
  refine go_regionY [false, false, false, false, false, false, false, false, true] rfl ?_
  refine go_pure0 Tk rfl rfl rfl ?_
  refine go_val0 rfl (ldv Tk rfl rfl rfl) rfl ?_
  refine go_val0 rfl (ldv Tk rfl rfl rfl) rfl ?_
  refine go_pure0 Tk rfl rfl rfl ?_
  refine go_pure0 Tk rfl rfl rfl ?_
  refine go_known 17 rfl ?_ ?_
  ·intro g1
   (try simp only [decide_eq_true_eq, decide_eq_false_iff_not, Bool.not_eq_true', Bool.not_eq_false', Bool.not_eq_eq_eq_not, Bool.not_true, Bool.not_false, Int.not_lt, Int.not_le, beq_iff_eq, beq_eq_false_iff_ne, ne_eq] at g1)
   refine go_pure0 Tk rfl rfl rfl ?_
   refine go_pure0 Tk rfl rfl rfl ?_
   refine go_val0 rfl (ldv Tk rfl rfl rfl) rfl ?_
   refine go_yield hY (D) ((c.b[k].a, A0, c0)) rfl rfl rfl rfl rfl (by repeat constructor) (by repeat constructor) ?_
   refine go_pure0 Tk rfl rfl rfl ?_
   refine go_pure0 Tk rfl rfl rfl ?_
   refine go_nil ?_
   refine go_env [(0, _), (2, _), (7, _), (8, _), (9, _), (18, _), (19, _), (20, _), (21, _), (22, _), (23, _)] ⟨rfl, rfl, rfl, rfl, rfl, rfl, rfl, rfl, rfl, rfl, rfl, trivial⟩ ?_
   refine go_cond_f rfl ?_
   refine go_skip ?_
   refine go_blk ?_
   refine go_region rfl ?_
   refine go_pure0 Tk rfl rfl rfl ?_
   refine go_pure0 Tk rfl rfl rfl ?_
   refine go_nil ?_
   refine go_i64 9 rfl (by omega) (by omega) ?_
   refine go_back (k + 1, _) ⟨rfl, rfl, rfl, rfl, rfl, trivial⟩ (by repeat constructor) (by repeat constructor) ⟨by show k + 1 ≤ _; omega, by show List.map _ (D ++ [_]) = _; rw [lits_yes (by omega) g1, List.map_append, hD]; rfl⟩ (by show c.b.length - (k + 1) < c.b.length - k; omega)
  ·intro g1
   (try simp only [decide_eq_true_eq, decide_eq_false_iff_not, Bool.not_eq_true', Bool.not_eq_false', Bool.not_eq_eq_eq_not, Bool.not_true, Bool.not_false, Int.not_lt, Int.not_le, beq_iff_eq, beq_eq_false_iff_ne, ne_eq] at g1)
   refine go_skip0 rfl rfl ?_
   refine go_skip0 rfl rfl ?_
   refine go_skip0 rfl rfl ?_
   refine go_skipY rfl rfl ?_
   refine go_skip0 rfl rfl ?_
   refine go_pure0 Tk rfl rfl rfl ?_
   refine go_nil ?_
   refine go_env [(0, _), (2, _), (7, _), (8, _), (9, _), (18, _), (19, _), (20, _), (21, _), (22, _), (23, _)] ⟨rfl, rfl, rfl, rfl, rfl, rfl, rfl, rfl, rfl, rfl, rfl, trivial⟩ ?_
   refine go_cond_f rfl ?_
   refine go_skip ?_
   refine go_blk ?_
   refine go_region rfl ?_
   refine go_pure0 Tk rfl rfl rfl ?_
   refine go_pure0 Tk rfl rfl rfl ?_
   refine go_nil ?_
   refine go_i64 9 rfl (by omega) (by omega) ?_
   refine go_back (k + 1, D) ⟨rfl, rfl, rfl, rfl, rfl, trivial⟩ (by repeat constructor) (by repeat constructor) ⟨by show k + 1 ≤ _; omega, by show List.map _ D = _; rw [lits_no (by omega) g1]; exact hD⟩ (by show c.b.length - (k + 1) < c.b.length - k; omega)
 ·intro hq1
  refine go_exit rfl ?_
  refine go_end ⟨rfl, rfl⟩ _ _ (res0 (by rfl)) ⟨D, by rw [List.take_of_length_le (by omega)] at hD; exact hD, rfl, rfl⟩ (by repeat constructor) (by repeat constructor)

set_option maxHeartbeats 2000000 in
set_option maxRecDepth 20000 in
theorem literals1S (ly bC bN : Nat) (R St : List Ax → OA) (hY : YldS Tryz.prog ly encA pxA R St) (c : Cl) (CA : Option Addr) (cc : Nat) (CB : Option Addr) (cd : Nat) (nt : Bool) (hb : ∀ l ∈ c.b, l.a.a.length ≤ 12) :
    Spec Tryz.prog 97 #[.func (.yield ly) #[] #[], .pointer (some ⟨bC, 0, none⟩), .pointer (some ⟨bN, 0, none⟩)] [cl bC 0 [.int .u32 c.h.p, .slice CA c.h.a.length cc, .slice CB c.b.length cd], cl bN 0 [.bool nt], sl tTm CA cc c.h.a, sl tLi CB cd c.b] [R []] (fun v Ps' Os' => Ps' = [] ∧ ((∃ xs : List Ax, xs.map (·.1) = litsOf c.b nt ∧ Os' = [R xs]) ∨ (∃ xs : List Ax, (∀ y ∈ xs, y.1 ∈ litsOf c.b nt) ∧ Os' = [St xs]))) := by
 refine spec_of (fn := Tryz.f97) (args := [.func (.yield ly) #[] #[], .pointer (some ⟨bC, 0, none⟩), .pointer (some ⟨bN, 0, none⟩)]) 25 Tryz.func97 rfl (by kernel_rfl) Tryz.ntmps97 (Nat.le_of_ble_eq_true rfl) (fun w0 hp0 hf0 => ?_)
 refine go_seq ?_
 refine go_len (xs := c.b) (by repeat constructor) (fun l0 m0 => ?_)
 refine go_region rfl ?_
 refine go_pure0 Tk rfl rfl rfl ?_
 refine go_val0 rfl (ldv Tk rfl rfl rfl) rfl ?_
 refine go_pure0 Tk rfl rfl rfl ?_
 refine go_pure0 Tk rfl rfl rfl ?_
 refine go_nil ?_
 refine go_env [(0, _), (2, _), (7, _), (8, _), (9, _)] ⟨rfl, rfl, rfl, rfl, rfl, trivial⟩ ?_
 refine go_block ?_
 refine go_loop' (X := Nat × List Ax) (fun x => [(9, .int .i64 (x.1 : Int))]) [(0, _), (2, _), (7, _), (8, _)] (fun x => [R x.2]) (fun x => x.1 ≤ c.b.length ∧ x.2.map (·.1) = litsOf (c.b.take x.1) nt) (fun x => c.b.length - x.1) ((0, [])) ⟨rfl, rfl, rfl, rfl, rfl, trivial⟩ (by repeat constructor) ⟨by omega, rfl⟩ ?_
 intro ⟨k, D⟩ ⟨hk, hD⟩
 simp only at hk hD ⊢
 refine go_seq ?_
 refine go_region rfl ?_
 refine go_pure0 Tk rfl rfl rfl ?_
 refine go_nil ?_
 refine go_env [(0, _), (2, _), (7, _), (8, _), (9, _), (10, _)] ⟨rfl, rfl, rfl, rfl, rfl, rfl, trivial⟩ ?_
 refine go_seq ?_
 refine go_condD rfl ?_ ?_
 ·intro hq1
  refine go_skip ?_
  refine go_seq ?_
  refine go_block ?_
  refine go_seq ?_
  refine go_elem_li (xs := c.b) (by repeat constructor) (k) (List.getElem?_eq_getElem (by omega)) (fun b0 o0 A0 c0 hA => ?_); cases hA
  refine go_ent (PA.and (c.b[k].a.a.length ≤ 12) (sl tTm A0 c0 c.b[k].a.a)) (fun hh a => ⟨hb _ (List.getElem_mem _), a (sl tTm A0 c0 c.b[k].a.a) (by repeat constructor)⟩) ?_
  refine go_region rfl ?_
  refine go_val0 rfl (idx_val Tk rfl rfl rfl rfl rfl (by omega)) rfl ?_
  refine go_val0 rfl (ldv Tk rfl rfl rfl) rfl ?_
  refine go_alloc Tk rfl rfl rfl (by rfl) rfl rfl (fun h => nomatch h) ?_
  intro b1
  refine go_store Tk rfl rfl rfl rfl rfl rfl (by repeat constructor) rfl rfl (by rfl) (fun h => nomatch h) ?_
  refine go_nil ?_
  refine go_env [(0, _), (2, _), (5, _), (7, _), (8, _), (9, _)] ⟨rfl, rfl, rfl, rfl, rfl, rfl, trivial⟩ ?_
  refine go_seq ?_
  refine go_regionY [false, false, false, false, false, false, false, false, true] rfl ?_
  refine go_pure0 Tk rfl rfl rfl ?_
  refine go_val0 rfl (ldv Tk rfl rfl rfl) rfl ?_
  refine go_val0 rfl (ldv Tk rfl rfl rfl) rfl ?_
  refine go_pure0 Tk rfl rfl rfl ?_
  refine go_pure0 Tk rfl rfl rfl ?_
  refine go_known 17 rfl ?_ ?_
  ·intro g1
   (try simp only [decide_eq_true_eq, decide_eq_false_iff_not, Bool.not_eq_true', Bool.not_eq_false', Bool.not_eq_eq_eq_not, Bool.not_true, Bool.not_false, Int.not_lt, Int.not_le, beq_iff_eq, beq_eq_false_iff_ne, ne_eq] at g1)
   refine go_pure0 Tk rfl rfl rfl ?_
   refine go_pure0 Tk rfl rfl rfl ?_
   refine go_val0 rfl (ldv Tk rfl rfl rfl) rfl ?_
   refine go_yield2 hY (D) ((c.b[k].a, A0, c0)) rfl rfl rfl rfl rfl (by repeat constructor) (by repeat constructor) ?_ ?_
   ·skip
    refine go_pure0 Tk rfl rfl rfl ?_
    refine go_pure0 Tk rfl rfl rfl ?_
    refine go_nil ?_
    refine go_env [(0, _), (2, _), (7, _), (8, _), (9, _), (18, _), (19, _), (20, _), (21, _), (22, _), (23, _)] ⟨rfl, rfl, rfl, rfl, rfl, rfl, rfl, rfl, rfl, rfl, rfl, trivial⟩ ?_
    refine go_cond_f rfl ?_
    refine go_skip ?_
    refine go_blk ?_
    refine go_region rfl ?_
    refine go_pure0 Tk rfl rfl rfl ?_
    refine go_pure0 Tk rfl rfl rfl ?_
    refine go_nil ?_
    refine go_i64 9 rfl (by omega) (by omega) ?_
    refine go_back (k + 1, _) ⟨rfl, rfl, rfl, rfl, rfl, trivial⟩ (by repeat constructor) (by repeat constructor) ⟨by show k + 1 ≤ _; omega, by show List.map _ (D ++ [_]) = _; rw [lits_yes (by omega) g1, List.map_append, hD]; rfl⟩ (by show c.b.length - (k + 1) < c.b.length - k; omega)
   ·skip
    refine go_pure0 Tk rfl rfl rfl ?_
    refine go_pure0 Tk rfl rfl rfl ?_
    refine go_nil ?_
    refine go_env [(0, _), (2, _), (7, _), (8, _), (9, _), (18, _), (19, _), (20, _), (21, _), (22, _), (23, _)] ⟨rfl, rfl, rfl, rfl, rfl, rfl, rfl, rfl, rfl, rfl, rfl, trivial⟩ ?_
    refine go_cond_t rfl ?_
    refine go_ret ⟨rfl, rfl⟩ _ _ (res0 (by rfl)) ⟨rfl, .inr ⟨D ++ [((c.b[k].a, A0, c0) : Ax)], fun y hy => lits_mem (k := k + 1) (by rw [lits_yes (by omega) g1, ← hD]; have := List.mem_map_of_mem (f := fun z : Ax => z.1) hy; rw [List.map_append] at this; exact this), rfl⟩⟩ (by repeat constructor) (by repeat constructor)
  ·intro g1
   (try simp only [decide_eq_true_eq, decide_eq_false_iff_not, Bool.not_eq_true', Bool.not_eq_false', Bool.not_eq_eq_eq_not, Bool.not_true, Bool.not_false, Int.not_lt, Int.not_le, beq_iff_eq, beq_eq_false_iff_ne, ne_eq] at g1)
   refine go_skip0 rfl rfl ?_
   refine go_skip0 rfl rfl ?_
   refine go_skip0 rfl rfl ?_
   refine go_skipY rfl rfl ?_
   refine go_skip0 rfl rfl ?_
   refine go_pure0 Tk rfl rfl rfl ?_
   refine go_nil ?_
   refine go_env [(0, _), (2, _), (7, _), (8, _), (9, _), (18, _), (19, _), (20, _), (21, _), (22, _), (23, _)] ⟨rfl, rfl, rfl, rfl, rfl, rfl, rfl, rfl, rfl, rfl, rfl, trivial⟩ ?_
   refine go_cond_f rfl ?_
   refine go_skip ?_
   refine go_blk ?_
   refine go_region rfl ?_
   refine go_pure0 Tk rfl rfl rfl ?_
   refine go_pure0 Tk rfl rfl rfl ?_
   refine go_nil ?_
   refine go_i64 9 rfl (by omega) (by omega) ?_
   refine go_back (k + 1, D) ⟨rfl, rfl, rfl, rfl, rfl, trivial⟩ (by repeat constructor) (by repeat constructor) ⟨by show k + 1 ≤ _; omega, by show List.map _ D = _; rw [lits_no (by omega) g1]; exact hD⟩ (by show c.b.length - (k + 1) < c.b.length - k; omega)
 ·intro hq1
  refine go_exit rfl ?_
  refine go_end ⟨rfl, rfl⟩ _ _ (res0 (by rfl)) ⟨rfl, .inl ⟨D, by rw [List.take_of_length_le (by omega)] at hD; exact hD, rfl⟩⟩ (by repeat constructor) (by repeat constructor)

end Go.Proofs.YtkhddfknpegpmaaGreat.SL

/- Contracts of functions of the program (Safef): what each call comes to, for the laws' proofs. -/
set_option linter.unusedVariables false
set_option linter.unusedSimpArgs false
namespace Go.Proofs.YtkhddfknpegpmaaGreat.SL
open Go 

def onesO (b : Nat) (s : List Int) : OA := OA.ex fun m => OA.and (Ones m s) (OA.all [mapO b .u32 m])
theorem go_ones {C : Ctx} {k : List It} {E : Env} {Ps : List PA} {Os : List OA} {b : Nat} {s : List Int} {rr : List OA} (h : Rem (onesO b s) Os rr) (g : ∀ m, Ones m s → Go C k E Ps ([mapO b .u32 m] ++ rr)) : Go C k E Ps Os :=
  go_oex h fun m => go_oand .here fun hm => go_oall .here (g m hm)
def okA (st : List Int) (a : Am) : Bool := (vars a).all fun v => decide (v ∈ st)
def goodO (bm bR : Nat) (st : List Int) (xs : List Ax) : OA := OA.and (∀ y ∈ xs, okA st y.1 = true) (OA.all [onesO bm st, pt bR 4 [.bool false]])
def badO (bm bR : Nat) (st : List Int) (xs : List Ax) : OA := OA.and (∃ y ∈ xs, okA st y.1 = false) (OA.all [onesO bm st, pt bR 4 [.bool false]])
theorem go_good {C : Ctx} {k : List It} {E : Env} {Ps : List PA} {Os : List OA} {bm bR : Nat} {st : List Int} {xs : List Ax} {rr : List OA} (h : Rem (goodO bm bR st xs) Os rr) (g : (∀ y ∈ xs, okA st y.1 = true) → Go C k E Ps ([onesO bm st, pt bR 4 [.bool false]] ++ rr)) : Go C k E Ps Os :=
  go_oand h fun hm => go_oall .here (g hm)
theorem go_bad {C : Ctx} {k : List It} {E : Env} {Ps : List PA} {Os : List OA} {bm bR : Nat} {st : List Int} {xs : List Ax} {rr : List OA} (h : Rem (badO bm bR st xs) Os rr) (g : (∃ y ∈ xs, okA st y.1 = false) → Go C k E Ps ([onesO bm st, pt bR 4 [.bool false]] ++ rr)) : Go C k E Ps Os :=
  go_oand h fun hm => go_oall .here (g hm)
theorem ones_more {m : List (Int × Value)} {pre : List Ax} {x : Ax} {vs : List Int} (h : Ones m ((pre.flatMap fun y => vars y.1) ++ vs)) (hv : ∀ z, z ∈ vs ↔ z ∈ vars x.1) : Ones m ((pre ++ [x]).flatMap fun y => vars y.1) :=
  h.same fun z => by rw [List.flatMap_append, List.mem_append, List.mem_append, hv]; simp
theorem held_eq {c : Cl} {xs ys : List Ax} (h1 : xs.map (·.1) = litsOf c.b false) (h2 : ys.map (·.1) = litsOf c.b true) : heldC c = ((ys.all fun y => okA (xs.flatMap fun y => vars y.1) y.1) && okA (xs.flatMap fun y => vars y.1) c.h) := by
  have e1 : (xs.flatMap fun y => vars y.1) = heldBy c := by
    unfold heldBy
    rw [show (xs.flatMap fun y => vars y.1) = (xs.map (·.1)).flatMap vars from by rw [List.flatMap_map], h1]
    unfold litsOf
    rw [List.flatMap_map]
    congr 2
    funext l; cases l.no <;> rfl
  rw [e1]
  unfold heldC okA
  congr 1
  have : (ys.all fun y => (vars y.1).all fun v => decide (v ∈ heldBy c)) = (ys.map (·.1)).all fun a => (vars a).all fun v => decide (v ∈ heldBy c) := by rw [List.all_map]; rfl
  rw [this, h2]
  unfold litsOf
  rw [List.all_map]
  congr 2
  funext l; cases l.no <;> rfl
theorem held_bad {c : Cl} {xs ys : List Ax} (h1 : xs.map (·.1) = litsOf c.b false) (h2 : ∀ y ∈ ys, y.1 ∈ litsOf c.b true) (h3 : ∃ y ∈ ys, okA (xs.flatMap fun y => vars y.1) y.1 = false) : heldC c = false := by
  have := held_eq (c := c) (ys := (litsOf c.b true).map fun a => (a, none, 0)) h1 (by rw [List.map_map]; exact List.map_id _)
  rw [this, Bool.and_eq_false_iff]
  left
  rw [List.all_eq_false]
  obtain ⟨y, hy, e⟩ := h3
  exact ⟨(y.1, none, 0), List.mem_map.2 ⟨y.1, h2 y hy, rfl⟩, by rw [e]; simp⟩

set_option maxHeartbeats 2000000 in
set_option maxRecDepth 20000 in
theorem safeHeld (c : Cl) (CA : Option Addr) (cc : Nat) (CB : Option Addr) (cd : Nat) (hh : c.h.a.length ≤ 12) (hb : ∀ l ∈ c.b, l.a.a.length ≤ 12) :
    Spec Tryz.prog 62 #[.agg #[.int .u32 c.h.p, .slice CA c.h.a.length cc, .slice CB c.b.length cd]] [sl tTm CA cc c.h.a, sl tLi CB cd c.b] [] (fun v Ps' Os' => v = .bool (heldC c) ∧ Ps' = [] ∧ Os' = []) := by
 refine spec_of (fn := Tryz.f62) (args := [.agg #[.int .u32 c.h.p, .slice CA c.h.a.length cc, .slice CB c.b.length cd]]) 35 Tryz.func62 rfl (by kernel_rfl) Tryz.ntmps62 (Nat.le_of_ble_eq_true rfl) (fun w0 hp0 hf0 => ?_)
 refine go_seq ?_
 refine go_region rfl ?_
 refine go_box Tk rfl rfl rfl rfl (by rfl) rfl rfl (fun h => nomatch h) ?_
 intro bC0
 refine go_freeze_pt (b := bC0) (by repeat constructor) ?_
 refine go_alloc Tk rfl rfl rfl (by rfl) rfl rfl (fun h => nomatch h) ?_
 intro bR
 refine go_nil ?_
 refine go_env [(1, _), (2, _)] ⟨rfl, rfl, trivial⟩ ?_
 refine go_seq ?_
 refine go_region rfl ?_
 refine go_makemap (kk := .u32) rfl rfl rfl (fun h => nomatch h) ?_
 intro bm
 refine go_alloc Tk rfl rfl rfl (by rfl) rfl rfl (fun h => nomatch h) ?_
 intro bM
 refine go_store Tk rfl rfl rfl rfl rfl rfl (by repeat constructor) rfl rfl (by rfl) (fun h => nomatch h) ?_
 refine go_nil ?_
 refine go_freeze_pt (b := bM) (by repeat constructor) ?_
 refine go_fold [mapO bm .u32 []] (onesO bm []) (by repeat constructor) (fun _ _ q => ⟨[], Ones.nil, q⟩) ?_
 refine go_env [(1, _), (2, _), (3, _)] ⟨rfl, rfl, rfl, trivial⟩ ?_
 refine go_seq ?_
 refine go_seq ?_
 refine go_region rfl ?_
 refine go_val0 rfl (ldv Tk rfl rfl rfl) rfl ?_
 refine go_call (safeLiterals c CA cc CB cd false) rfl rfl (by rfl) rfl (by repeat constructor) (by repeat constructor) (fun h => nomatch h) ?_
 rintro _ _ _ ⟨bC, bN, rfl, rfl, rfl⟩
 refine go_nil ?_
 refine go_env [(1, _), (2, _), (3, _), (11, _)] ⟨rfl, rfl, rfl, rfl, trivial⟩ ?_
 refine go_block ?_
 refine go_range (α := Ax) (enc := encA) (Px := pxA) rfl rfl rfl (fun D => [onesO bm (D.flatMap fun y => vars y.1)]) ([]) ([]) (by repeat constructor) (by repeat constructor) ([cl bC 0 [.int .u32 c.h.p, .slice CA c.h.a.length cc, .slice CB c.b.length cd], cl bN 0 [.bool false], sl tTm CA cc c.h.a, sl tLi CB cd c.b]) (by repeat constructor) (fun xs => xs.map (·.1) = litsOf c.b false) (fun ly R hY => literals1 ly bC bN R hY c CA cc CB cd false hb) (X := Nat) (fun x => [(4, .pointer (some ⟨x, 0, none⟩))]) [(2, .pointer (some ⟨bR, 0, none⟩)), (3, .pointer (some ⟨bM, 0, none⟩))] (fun pre x y => [pt y 25 [.int .u32 x.1.p, .slice x.2.1 x.1.a.length x.2.2], onesO bm (pre.flatMap fun y => vars y.1)]) (fun _ _ _ => True) (fun ly pre x w0' hp0' hf0' => ?_) (fun ly pre x y _ w0' hp0' hf0' => ?_) (fun D xs hdj hxs => ?_)
 ·skip
  refine go_region rfl ?_
  refine go_alloc Tk rfl rfl rfl (by rfl) rfl rfl (fun h => nomatch h) ?_
  intro b1
  refine go_store Tk rfl rfl rfl rfl rfl rfl (by repeat constructor) rfl rfl (by rfl) (fun h => nomatch h) ?_
  refine go_nil ?_
  refine go_back _ ⟨rfl, rfl, rfl, trivial⟩ (by repeat constructor) (by repeat constructor) trivial (by decide)
 ·skip
  refine go_pand (fun hxa => ?_)
  refine go_freeze_pt (b := y) (by repeat constructor) ?_
  refine go_ones (b := bm) (by repeat constructor) (fun m hm => ?_)
  refine go_block ?_
  refine go_seq ?_
  refine go_region rfl ?_
  refine go_val0 rfl (ldv Tk rfl rfl rfl) rfl ?_
  refine go_call (varsA x.1 x.2.1 x.2.2 hxa) rfl rfl (by rfl) rfl (by repeat constructor) (by repeat constructor) (fun h => nomatch h) ?_
  rintro _ _ _ ⟨A1, c1, vs, rfl, hvs, hvl, rfl, rfl⟩
  refine go_pure0 Tk rfl rfl rfl ?_
  refine go_pure0 Tk rfl rfl rfl ?_
  refine go_nil ?_
  refine go_env [(3, _), (14, _), (15, _), (16, _)] ⟨rfl, rfl, rfl, rfl, trivial⟩ ?_
  refine go_block ?_
  refine go_loop' (X := Nat × List (Int × Value)) (fun x => [(16, .int .i64 (x.1 : Int))]) [(3, _), (14, _), (15, _)] (fun x => [mapO bm .u32 x.2]) (fun z => z.1 ≤ vs.length ∧ Ones z.2 ((pre.flatMap fun y => vars y.1) ++ vs.take z.1)) (fun x => vs.length - x.1) ((0, m)) ⟨rfl, rfl, rfl, rfl, trivial⟩ (by repeat constructor) ⟨by omega, by simpa using hm⟩ ?_
  intro ⟨k, m2⟩ ⟨hk, hm2⟩
  simp only at hk hm2 ⊢
  refine go_seq ?_
  refine go_region rfl ?_
  refine go_pure0 Tk rfl rfl rfl ?_
  refine go_nil ?_
  refine go_env [(3, _), (14, _), (15, _), (16, _), (17, _)] ⟨rfl, rfl, rfl, rfl, rfl, trivial⟩ ?_
  refine go_seq ?_
  refine go_condD rfl ?_ ?_
  ·intro hq1
   refine go_skip ?_
   refine go_seq ?_
   refine go_block ?_
   refine go_seq ?_
   refine go_elem_int (xs := vs) (by repeat constructor) (k) (List.getElem?_eq_getElem (by omega)) (fun b o hA => ?_); cases hA
   refine go_region rfl ?_
   refine go_val0 rfl (idx_val Tk rfl rfl rfl rfl rfl (by omega)) rfl ?_
   refine go_val0 rfl (ldv Tk rfl rfl rfl) rfl ?_
   refine go_pure0 Tk rfl rfl rfl ?_
   refine go_nil ?_
   refine go_env [(3, _), (6, _), (14, _), (15, _), (16, _)] ⟨rfl, rfl, rfl, rfl, rfl, trivial⟩ ?_
   refine go_region rfl ?_
   refine go_val0 rfl (ldv Tk rfl rfl rfl) rfl ?_
   refine go_pure0 Tk rfl rfl rfl ?_
   refine go_mset (m := m2) Tk rfl rfl rfl rfl rfl rfl rfl rfl (by repeat constructor) (fun h => nomatch h) ?_
   refine go_nil ?_
   refine go_env [(3, _), (14, _), (15, _), (16, _)] ⟨rfl, rfl, rfl, rfl, trivial⟩ ?_
   refine go_blk ?_
   refine go_region rfl ?_
   refine go_pure0 Tk rfl rfl rfl ?_
   refine go_pure0 Tk rfl rfl rfl ?_
   refine go_nil ?_
   refine go_i64 16 rfl (by omega) (by omega) ?_
   refine go_back (k + 1, _) ⟨rfl, rfl, rfl, rfl, trivial⟩ (by repeat constructor) (by repeat constructor) ⟨by show k + 1 ≤ _; omega, (hm2.set vs[k]).same (fun z => by rw [List.mem_cons, List.mem_append, List.mem_append, mem_take_succ (by omega)]; constructor <;> intro h <;> rcases h with h | h | h <;> simp [h])⟩ (by show vs.length - (k + 1) < vs.length - k; omega)
  ·intro hq1
   refine go_exit rfl ?_
   refine go_blk ?_
   refine go_fold [mapO bm .u32 m2] (onesO bm ((pre ++ [x]).flatMap fun y => vars y.1)) (by repeat constructor) (fun _ _ q => ⟨m2, ones_more (by rw [List.take_of_length_le (by omega)] at hm2; exact hm2) hvs, q⟩) ?_
   refine go_back () trivial (by repeat constructor) (by repeat constructor) trivial (by decide)
 refine go_blk ?_
 refine go_seq ?_
 refine go_region rfl ?_
 refine go_pure0 Tk rfl rfl rfl ?_
 refine go_alloc Tk rfl rfl rfl (by rfl) rfl rfl (fun h => nomatch h) ?_
 intro bF
 refine go_store Tk rfl rfl rfl rfl rfl rfl (by repeat constructor) rfl rfl (by rfl) (fun h => nomatch h) ?_
 refine go_nil ?_
 refine go_freeze_pt (b := bF) (by repeat constructor) ?_
 refine go_env [(1, _), (2, _), (7, _)] ⟨rfl, rfl, rfl, trivial⟩ ?_
 refine go_seq ?_
 refine go_seq ?_
 refine go_region rfl ?_
 refine go_val0 rfl (ldv Tk rfl rfl rfl) rfl ?_
 refine go_call (safeLiterals c CA cc CB cd true) rfl rfl (by rfl) rfl (by repeat constructor) (by repeat constructor) (fun h => nomatch h) ?_
 rintro _ _ _ ⟨bC2, bN2, rfl, rfl, rfl⟩
 refine go_fold [onesO bm (xs.flatMap fun y => vars y.1), pt bR 4 [.bool false]] (goodO bm bR (xs.flatMap fun y => vars y.1) []) (by repeat constructor) (fun _ _ q => ⟨(fun y h => nomatch h), q⟩) ?_
 refine go_nil ?_
 refine go_env [(1, _), (2, _), (7, _), (25, _)] ⟨rfl, rfl, rfl, rfl, trivial⟩ ?_
 refine go_block ?_
 refine go_rangeS (α := Ax) (enc := encA) (Px := pxA) rfl rfl rfl (fun D => [goodO bm bR (xs.flatMap fun y => vars y.1) D]) (fun D => [badO bm bR (xs.flatMap fun y => vars y.1) D]) ([]) ([]) (by repeat constructor) (by repeat constructor) ([cl bC2 0 [.int .u32 c.h.p, .slice CA c.h.a.length cc, .slice CB c.b.length cd], cl bN2 0 [.bool true], sl tTm CA cc c.h.a, sl tLi CB cd c.b]) (by repeat constructor) (fun ys => ys.map (·.1) = litsOf c.b true) (fun ys => ∀ y ∈ ys, y.1 ∈ litsOf c.b true) (fun ly R St hY => (literals1S ly bC2 bN2 R St hY c CA cc CB cd true hb)) (X := Nat) (fun x => [(8, .pointer (some ⟨x, 0, none⟩))]) [(2, .pointer (some ⟨bR, 0, none⟩)), (7, .pointer (some ⟨bF, 0, none⟩))] (fun pre x y => [pt y 25 [.int .u32 x.1.p, .slice x.2.1 x.1.a.length x.2.2], goodO bm bR (xs.flatMap fun y => vars y.1) pre]) (fun _ _ _ => True) (fun ly pre x w0' hp0' hf0' => ?_) (fun ly pre x y _ w0' hp0' hf0' => ?_) (fun D ys hdj2 hys => ?_) (fun D ys hdj2 hys => ?_)
 ·skip
  refine go_region rfl ?_
  refine go_alloc Tk rfl rfl rfl (by rfl) rfl rfl (fun h => nomatch h) ?_
  intro b2
  refine go_store Tk rfl rfl rfl rfl rfl rfl (by repeat constructor) rfl rfl (by rfl) (fun h => nomatch h) ?_
  refine go_nil ?_
  refine go_back _ ⟨rfl, rfl, rfl, trivial⟩ (by repeat constructor) (by repeat constructor) trivial (by decide)
 ·skip
  refine go_pand (fun hxa => ?_)
  refine go_freeze_pt (b := y) (by repeat constructor) ?_
  refine go_good (xs := pre) (by repeat constructor) (fun hpre => ?_)
  refine go_ones (b := bm) (by repeat constructor) (fun m hm => ?_)
  refine go_block ?_
  refine go_seq ?_
  refine go_region rfl ?_
  refine go_val0 rfl (ldv Tk rfl rfl rfl) rfl ?_
  refine go_val0 rfl (ldv Tk rfl rfl rfl) rfl ?_
  refine go_call (safeHeld1 bM bm m _ hm x.1 x.2.1 x.2.2 hxa) rfl rfl (by rfl) rfl (by repeat constructor) (by repeat constructor) (fun h => nomatch h) ?_
  rintro _ _ _ ⟨rfl, rfl, rfl⟩
  refine go_pure0 Tk rfl rfl rfl ?_
  refine go_nil ?_
  refine go_env [(2, _), (30, _)] ⟨rfl, rfl, trivial⟩ ?_
  refine go_cond rfl ?_ ?_
  ·intro g1
   (try simp only [decide_eq_true_eq, decide_eq_false_iff_not, Bool.not_eq_true', Bool.not_eq_false', Bool.not_eq_eq_eq_not, Bool.not_true, Bool.not_false, Int.not_lt, Int.not_le, beq_iff_eq, beq_eq_false_iff_ne, ne_eq] at g1)
   refine go_seq ?_
   refine go_region rfl ?_
   refine go_store Tk rfl rfl rfl rfl rfl rfl (by repeat constructor) rfl rfl (by rfl) (fun h => nomatch h) ?_
   refine go_nil ?_
   refine go_env [(2, _)] ⟨rfl, trivial⟩ ?_
   refine go_fold [mapO bm .u32 m] (onesO bm (xs.flatMap fun y => vars y.1)) (by repeat constructor) (fun _ _ q => ⟨m, hm, q⟩) ?_
   refine go_fold [onesO bm (xs.flatMap fun y => vars y.1), pt bR 4 [.bool false]] (badO bm bR (xs.flatMap fun y => vars y.1) (pre ++ [x])) (by repeat constructor) (fun _ _ q => ⟨⟨x, List.mem_append_right _ (.head _), g1⟩, q⟩) ?_
   refine go_stop (by repeat constructor)
  ·intro g1
   (try simp only [decide_eq_true_eq, decide_eq_false_iff_not, Bool.not_eq_true', Bool.not_eq_false', Bool.not_eq_eq_eq_not, Bool.not_true, Bool.not_false, Int.not_lt, Int.not_le, beq_iff_eq, beq_eq_false_iff_ne, ne_eq] at g1)
   refine go_skip ?_
   refine go_blk ?_
   refine go_fold [mapO bm .u32 m] (onesO bm (xs.flatMap fun y => vars y.1)) (by repeat constructor) (fun _ _ q => ⟨m, hm, q⟩) ?_
   refine go_fold [onesO bm (xs.flatMap fun y => vars y.1), pt bR 4 [.bool false]] (goodO bm bR (xs.flatMap fun y => vars y.1) (pre ++ [x])) (by repeat constructor) (fun _ _ q => ⟨fun z hz => (List.mem_append.1 hz).elim (hpre z) (fun e => by rw [List.mem_singleton.1 e]; exact g1), q⟩) ?_
   refine go_back () trivial (by repeat constructor) (by repeat constructor) trivial (by decide)
 ·skip
  refine go_good (xs := ys) (by repeat constructor) (fun hall => ?_)
  refine go_ones (b := bm) (by repeat constructor) (fun m hm => ?_)
  refine go_blk ?_
  refine go_seq ?_
  refine go_region rfl ?_
  refine go_val0 rfl (ldv Tk rfl rfl rfl) rfl ?_
  refine go_pure0 Tk rfl rfl rfl ?_
  refine go_val0 rfl (ldv Tk rfl rfl rfl) rfl ?_
  refine go_call (safeHeld1 bM bm m _ hm c.h CA cc hh) rfl rfl (by rfl) rfl (by repeat constructor) (by repeat constructor) (fun h => nomatch h) ?_
  rintro _ _ _ ⟨rfl, rfl, rfl⟩
  refine go_store Tk rfl rfl rfl rfl rfl rfl (by repeat constructor) rfl rfl (by rfl) (fun h => nomatch h) ?_
  refine go_nil ?_
  refine go_env [(2, _)] ⟨rfl, trivial⟩ ?_
  refine go_retN (.mark (.mark .base hdj) hdj2) ⟨rfl, rfl⟩ _ _ (res1 (by rfl) (.cell rfl (rdv Tk rfl))) ⟨congrArg Value.bool (by rw [held_eq hxs hys, show (ys.all fun y => okA (xs.flatMap fun y => vars y.1) y.1) = true from List.all_eq_true.2 hall, Bool.true_and]; rfl), rfl, rfl⟩ (by repeat constructor) (by repeat constructor)
 ·skip
  refine go_bad (xs := ys) (by repeat constructor) (fun hbad => ?_)
  refine go_retN (.mark (.mark .base hdj) hdj2) ⟨rfl, rfl⟩ _ _ (res1 (by rfl) (.cell rfl (rdv Tk rfl))) ⟨congrArg Value.bool (held_bad hxs hys hbad).symm, rfl, rfl⟩ (by repeat constructor) (by repeat constructor)

end Go.Proofs.YtkhddfknpegpmaaGreat.SL

/- Contracts of functions of the program (Safeg): what each call comes to, for the laws' proofs. -/
set_option linter.unusedVariables false
set_option linter.unusedSimpArgs false
namespace Go.Proofs.YtkhddfknpegpmaaGreat.SL
open Go 

set_option maxHeartbeats 2000000 in
set_option maxRecDepth 20000 in
theorem safeRight (A : Option Addr) (c : Nat) (l : List Cl) :
    Spec Tryz.prog 46 #[.slice A l.length c] [sl tCl A c l] [] (fun v Ps' Os' => v = .tuple #[.int .i64 (rightC l).1, .int .i64 (rightC l).2] ∧ Ps' = [] ∧ Os' = []) := by
 refine spec_of (fn := Tryz.f46) (args := [.slice A l.length c]) 35 Tryz.func46 rfl (by kernel_rfl) Tryz.ntmps46 (Nat.le_of_ble_eq_true rfl) (fun w0 hp0 hf0 => ?_)
 refine go_seq ?_
 refine go_region rfl ?_
 refine go_pure0 Tk rfl rfl rfl ?_
 refine go_pure0 Tk rfl rfl rfl ?_
 refine go_nil ?_
 refine go_env [(0, _)] ⟨rfl, trivial⟩ ?_
 refine go_seq ?_
 refine go_seq ?_
 refine go_len (xs := l) (by repeat constructor) (fun l0 m0 => ?_)
 refine go_region rfl ?_
 refine go_pure0 Tk rfl rfl rfl ?_
 refine go_pure0 Tk rfl rfl rfl ?_
 refine go_pure0 Tk rfl rfl rfl ?_
 refine go_nil ?_
 refine go_env [(0, _), (9, _)] ⟨rfl, rfl, trivial⟩ ?_
 refine go_condD rfl ?_ ?_
 ·intro h1
  refine go_seq ?_
  refine go_region rfl ?_
  refine go_pure0 Tk rfl rfl rfl ?_
  refine go_pure0 Tk rfl rfl rfl ?_
  refine go_nil ?_
  refine go_env [(2, _), (3, _)] ⟨rfl, rfl, trivial⟩ ?_
  refine go_ret ⟨rfl, rfl⟩ _ _ (res2 (by rfl) (.tmp rfl) (.tmp rfl)) ⟨by unfold rightC; rw [if_pos (by omega)], rfl, rfl⟩ (by repeat constructor) (by repeat constructor)
 ·intro h1
  refine go_skip ?_
  refine go_seq ?_
  refine go_region rfl ?_
  refine go_makemap (kk := .u32) rfl rfl rfl (by first | exact (fun _ _ _ => satA) | exact (fun h => nomatch h) | exact (fun h => nomatch (Eq.symm h).trans (show _ = false by kernel_rfl))) ?_
  intro bm
  refine go_pure0 Tk rfl rfl rfl ?_
  refine go_nil ?_
  refine go_env [(0, _), (4, _)] ⟨rfl, rfl, trivial⟩ ?_
  refine go_seq ?_
  refine go_seq ?_
  refine go_region rfl ?_
  refine go_pure0 Tk rfl rfl rfl ?_
  refine go_pure0 Tk rfl rfl rfl ?_
  refine go_pure0 Tk rfl rfl rfl ?_
  refine go_nil ?_
  refine go_env [(4, _), (11, _), (12, _), (13, _)] ⟨rfl, rfl, rfl, rfl, trivial⟩ ?_
  refine go_block ?_
  refine go_loop' (X := Nat × List (Int × Value) × Lens) (fun x => [(13, .int .i64 (x.1 : Int))]) [(4, _), (11, _), (12, _)] (fun x => [mapO bm .u32 x.2.1]) (fun x => x.1 ≤ l.length ∧ Lens.Is x.2.1 x.2.2 ∧ rightF (fun _ => none) l 0 = rightF x.2.2 (l.drop x.1) x.1) (fun x => l.length - x.1) ((0, [], fun _ => none)) ⟨rfl, rfl, rfl, rfl, trivial⟩ (by repeat constructor) ⟨by omega, Lens.Is.nil, rfl⟩ ?_
  intro ⟨k, m, L⟩ ⟨hk, hm, hz⟩
  simp only at hk hm hz ⊢
  refine go_seq ?_
  refine go_region rfl ?_
  refine go_pure0 Tk rfl rfl rfl ?_
  refine go_nil ?_
  refine go_env [(4, _), (11, _), (12, _), (13, _), (14, _)] ⟨rfl, rfl, rfl, rfl, rfl, trivial⟩ ?_
  refine go_seq ?_
  refine go_condD rfl ?_ ?_
  ·intro hq1
   refine go_skip ?_
   refine go_seq ?_
   refine go_block ?_
   refine go_seq ?_
   refine go_elem_cl (xs := l) (by repeat constructor) (k) (List.getElem?_eq_getElem (by omega)) (fun b0 o0 A0 c0 B0 d0 hA => ?_); cases hA
   refine go_region rfl ?_
   refine go_pure0 Tk rfl rfl rfl ?_
   refine go_val0 rfl (idx_val Tk rfl rfl rfl rfl rfl (by omega)) rfl ?_
   refine go_val0 rfl (ldv Tk rfl rfl rfl) rfl ?_
   refine go_alloc Tk rfl rfl rfl (by rfl) rfl rfl (fun h => nomatch h) ?_
   intro bt
   refine go_pure0 Tk rfl rfl rfl ?_
   refine go_store Tk rfl rfl rfl rfl rfl rfl (by repeat constructor) rfl rfl (by rfl) (fun h => nomatch h) ?_
   refine go_nil ?_
   refine go_freeze_pt (b := bt) (by repeat constructor) ?_
   refine go_env [(4, _), (5, _), (6, _), (11, _), (12, _), (13, _)] ⟨rfl, rfl, rfl, rfl, rfl, rfl, trivial⟩ ?_
   refine go_block ?_
   refine go_seq ?_
   refine go_region rfl ?_
   refine go_val0 rfl (ldv Tk rfl rfl rfl) rfl ?_
   refine go_call (may l[k] A0 c0 B0 d0) rfl rfl (by rfl) rfl (by repeat constructor) (by repeat constructor) (fun h => nomatch h) ?_
   rintro _ _ _ ⟨rfl, rfl, rfl⟩
   refine go_pure0 Tk rfl rfl rfl ?_
   refine go_pure0 Tk rfl rfl rfl ?_
   refine go_nil ?_
   refine go_env [(4, _), (5, _), (6, _), (11, _), (12, _), (13, _), (18, _)] ⟨rfl, rfl, rfl, rfl, rfl, rfl, rfl, trivial⟩ ?_
   refine go_cond rfl ?_ ?_
   ·intro g1
    (try simp only [decide_eq_true_eq, decide_eq_false_iff_not, Bool.not_eq_true', Bool.not_eq_false', Bool.not_eq_eq_eq_not, Bool.not_true, Bool.not_false, Int.not_lt, Int.not_le, beq_iff_eq, beq_eq_false_iff_ne, ne_eq] at g1)
    refine go_seq ?_
    refine go_region rfl ?_
    refine go_pure0 Tk rfl rfl rfl ?_
    refine go_pure0 Tk rfl rfl rfl ?_
    refine go_pure0 Tk rfl rfl rfl ?_
    refine go_nil ?_
    refine go_env [(2, _), (3, _)] ⟨rfl, rfl, trivial⟩ ?_
    refine go_ret ⟨rfl, rfl⟩ _ _ (res2 (by rfl) (.tmp rfl) (.tmp rfl)) ⟨by unfold rightC; rw [if_neg (by omega), hz, right_bad (by omega) (by rw [show badC L l[k] = 8 by unfold badC; rw [if_pos g1]]; decide), show badC L l[k] = 8 by unfold badC; rw [if_pos g1]], rfl, rfl⟩ (by repeat constructor) (by repeat constructor)
   ·intro g1
    (try simp only [decide_eq_true_eq, decide_eq_false_iff_not, Bool.not_eq_true', Bool.not_eq_false', Bool.not_eq_eq_eq_not, Bool.not_true, Bool.not_false, Int.not_lt, Int.not_le, beq_iff_eq, beq_eq_false_iff_ne, ne_eq] at g1)
    refine go_seq ?_
    refine go_region rfl ?_
    refine go_val0 rfl (ldv Tk rfl rfl rfl) rfl ?_
    refine go_call (safeHeld l[k] A0 c0 B0 d0 (may_len g1).1 (may_len g1).2) rfl rfl (by rfl) rfl (by repeat constructor) (by repeat constructor) (fun h => nomatch h) ?_
    rintro _ _ _ ⟨rfl, rfl, rfl⟩
    refine go_pure0 Tk rfl rfl rfl ?_
    refine go_pure0 Tk rfl rfl rfl ?_
    refine go_nil ?_
    refine go_env [(4, _), (5, _), (6, _), (11, _), (12, _), (13, _), (23, _)] ⟨rfl, rfl, rfl, rfl, rfl, rfl, rfl, trivial⟩ ?_
    refine go_cond rfl ?_ ?_
    ·intro g2
     (try simp only [decide_eq_true_eq, decide_eq_false_iff_not, Bool.not_eq_true', Bool.not_eq_false', Bool.not_eq_eq_eq_not, Bool.not_true, Bool.not_false, Int.not_lt, Int.not_le, beq_iff_eq, beq_eq_false_iff_ne, ne_eq] at g2)
     refine go_seq ?_
     refine go_region rfl ?_
     refine go_pure0 Tk rfl rfl rfl ?_
     refine go_pure0 Tk rfl rfl rfl ?_
     refine go_pure0 Tk rfl rfl rfl ?_
     refine go_nil ?_
     refine go_env [(2, _), (3, _)] ⟨rfl, rfl, trivial⟩ ?_
     refine go_ret ⟨rfl, rfl⟩ _ _ (res2 (by rfl) (.tmp rfl) (.tmp rfl)) ⟨by unfold rightC; rw [if_neg (by omega), hz, right_bad (by omega) (by rw [show badC L l[k] = 10 by unfold badC; rw [if_neg (by rw [g1]; decide), if_pos g2]]; decide), show badC L l[k] = 10 by unfold badC; rw [if_neg (by rw [g1]; decide), if_pos g2]], rfl, rfl⟩ (by repeat constructor) (by repeat constructor)
    ·intro g2
     (try simp only [decide_eq_true_eq, decide_eq_false_iff_not, Bool.not_eq_true', Bool.not_eq_false', Bool.not_eq_eq_eq_not, Bool.not_true, Bool.not_false, Int.not_lt, Int.not_le, beq_iff_eq, beq_eq_false_iff_ne, ne_eq] at g2)
     refine go_seq ?_
     refine go_region rfl ?_
     refine go_pure0 Tk rfl rfl rfl ?_
     refine go_val0 rfl (ldv Tk rfl rfl rfl) rfl ?_
     refine go_call (safeClause bm m L hm l[k] A0 c0 B0 d0) rfl rfl (by rfl) rfl (by repeat constructor) (by repeat constructor) (fun h => nomatch h) ?_
     rintro _ _ _ ⟨m1, hm1, rfl, rfl, rfl⟩
     refine go_pure0 Tk rfl rfl rfl ?_
     refine go_pure0 Tk rfl rfl rfl ?_
     refine go_nil ?_
     refine go_env [(4, _), (5, _), (11, _), (12, _), (13, _), (28, _)] ⟨rfl, rfl, rfl, rfl, rfl, rfl, trivial⟩ ?_
     refine go_cond rfl ?_ ?_
     ·intro g3
      (try simp only [decide_eq_true_eq, decide_eq_false_iff_not, Bool.not_eq_true', Bool.not_eq_false', Bool.not_eq_eq_eq_not, Bool.not_true, Bool.not_false, Int.not_lt, Int.not_le, beq_iff_eq, beq_eq_false_iff_ne, ne_eq] at g3)
      refine go_seq ?_
      refine go_region rfl ?_
      refine go_pure0 Tk rfl rfl rfl ?_
      refine go_pure0 Tk rfl rfl rfl ?_
      refine go_pure0 Tk rfl rfl rfl ?_
      refine go_nil ?_
      refine go_env [(2, _), (3, _)] ⟨rfl, rfl, trivial⟩ ?_
      refine go_ret ⟨rfl, rfl⟩ _ _ (res2 (by rfl) (.tmp rfl) (.tmp rfl)) ⟨by unfold rightC; rw [if_neg (by omega), hz, right_bad (by omega) (by rw [show badC L l[k] = 9 by unfold badC; rw [if_neg (by rw [g1]; decide), if_neg (by rw [g2]; decide), if_pos g3]]; decide), show badC L l[k] = 9 by unfold badC; rw [if_neg (by rw [g1]; decide), if_neg (by rw [g2]; decide), if_pos g3]], rfl, rfl⟩ (by repeat constructor) (by repeat constructor)
     ·intro g3
      (try simp only [decide_eq_true_eq, decide_eq_false_iff_not, Bool.not_eq_true', Bool.not_eq_false', Bool.not_eq_eq_eq_not, Bool.not_true, Bool.not_false, Int.not_lt, Int.not_le, beq_iff_eq, beq_eq_false_iff_ne, ne_eq] at g3)
      refine go_skip ?_
      refine go_blk ?_
      refine go_blk ?_
      refine go_region rfl ?_
      refine go_pure0 Tk rfl rfl rfl ?_
      refine go_pure0 Tk rfl rfl rfl ?_
      refine go_nil ?_
      refine go_i64 13 rfl (by omega) (by omega) ?_
      refine go_back (k + 1, m1, (clauseL L l[k]).2) ⟨rfl, rfl, rfl, rfl, trivial⟩ (by repeat constructor) (by repeat constructor) ⟨by show k + 1 ≤ _; omega, hm1, hz.trans (right_ok (by omega) (by unfold badC; rw [if_neg (by rw [g1]; decide), if_neg (by rw [g2]; decide), if_neg (by rw [g3]; decide)]))⟩ (by show l.length - (k + 1) < l.length - k; omega)
  ·intro hq1
   refine go_exit rfl ?_
   refine go_seq ?_
   refine go_region rfl ?_
   refine go_pure0 Tk rfl rfl rfl ?_
   refine go_pure0 Tk rfl rfl rfl ?_
   refine go_nil ?_
   refine go_env [(2, _), (3, _)] ⟨rfl, rfl, trivial⟩ ?_
   refine go_ret ⟨rfl, rfl⟩ _ _ (res2 (by rfl) (.tmp rfl) (.tmp rfl)) ⟨by unfold rightC; rw [if_neg (by omega), hz, List.drop_eq_nil_of_le (by omega)]; rfl, rfl, rfl⟩ (by repeat constructor) (by repeat constructor)

end Go.Proofs.YtkhddfknpegpmaaGreat.SL
