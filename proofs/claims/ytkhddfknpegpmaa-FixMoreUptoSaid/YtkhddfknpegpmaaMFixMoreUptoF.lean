/- Engine, data and contracts: parts of the proof of FixMoreUpto, put together (Law14c S8 Open SE). -/
import Derived.Test.YtkhddfknpegpmaaMFixMoreUptoE
import Derived.Test.YtkhddfknpegpmaaMFixMoreUptoA
import Derived.WalkKit
import Derived.ProofKit
import Derived.OpenShut
import Derived.ShutString
import Derived.ChangeOld
import Derived.Below
import Derived.Carry
import Derived.SizedLaws
import Derived.Deep.Slices
import Derived.Test.YtkhddfknpegpmaaMFixMoreUptoB
import Derived.Test.YtkhddfknpegpmaaMFixMoreUptoC
/- Contracts of functions of the program (Law14c): what each call comes to, for the laws' proofs. -/
set_option linter.unusedVariables false
set_option linter.unusedSimpArgs false
namespace Go.Proofs.Ytkhddfknpegpmaa.SL
open Go 

theorem fix_ab {a b : List Fa} {l : List Cl} (fp : few14P l (a ++ b)) : a.length + b.length ≤ 30 ∧ ∀ x ∈ a ++ b, x.a.length ≤ 30 := ⟨by have := fp.2.1; rw [List.length_append] at this; exact this, (few11_of fp.2.2.1).2.2⟩
theorem fof_app_l {a b : List Fa} : ∀ x ∈ fof a, x ∈ fof (a ++ b) := fun x hx => mem_fof.2 (List.mem_append_left _ (mem_fof.1 hx))
theorem all_sub {a b : List Fa} (h : ∀ x ∈ fof b, x.ok ∧ x.a.length ≤ 100000) (g : ∀ x ∈ a, x ∈ b) : ∀ x ∈ fof a, x.ok ∧ x.a.length ≤ 100000 := fun x hx => h x (mem_fof.2 (g x (mem_fof.1 hx)))

set_option maxHeartbeats 6000000 in
set_option maxRecDepth 20000 in
theorem lawFixMore (l : List Cl) (LA : Option Addr) (lc : Nat) (gl : ∀ c ∈ l, c.ok) (zl : l.length ≤ 140737488351232) (a : List Fa) (A : Option Addr) (ka : Nat) (ga : ∀ x ∈ a, x.ok) (za : a.length ≤ 1048576) (b : List Fa) (B : Option Addr) (kb : Nat) (gb : ∀ x ∈ b, x.ok) (zb : b.length ≤ 1048576) :
    Spec Try.prog 6 #[.slice LA l.length lc, .slice A a.length ka, .slice B b.length kb] [sl tCl LA lc l, sl tFa A ka a, sl tFa B kb b] [] (fun v Ps' Os' => v = .bool true ∧ Ps' = [] ∧ Os' = []) := by
 refine spec_of (fn := Try.f6) (args := [.slice LA l.length lc, .slice A a.length ka, .slice B b.length kb]) 124 Try.func6 rfl (by kernel_rfl) Try.ntmps6 (Nat.le_of_ble_eq_true rfl) (fun w0 hp0 hf0 => ?_)
 refine go_seq ?_
 refine go_region rfl ?_
 refine go_pure0 Tk rfl rfl rfl ?_
 refine go_nil ?_
 refine go_env [(0, _), (1, _), (2, _)] ⟨rfl, rfl, rfl, trivial⟩ ?_
 refine go_seq ?_
 refine go_region rfl ?_
 refine go_bslice Tk rfl rfl rfl rfl rfl rfl rfl rfl (fun h => nomatch h) ?_
 intro bz
 refine go_lit_ol (b := bz) tFa [] (by repeat constructor) (fun _ _ => rfl) (by simp) ?_
 refine go_pure0 Tk rfl rfl rfl ?_
 refine go_appendN (T := tFa) (xs := []) (ys := a) Tk rfl rfl rfl rfl rfl rfl rfl rfl rfl (by repeat constructor) rfl (by repeat constructor) (by simp only [List.length_nil]; omega) (by first | exact (fun _ _ _ => satA) | exact (fun h => nomatch h) | exact (fun h => nomatch (Eq.symm h).trans (show _ = false by kernel_rfl))) ?_
 intro B1 j1
 rw [List.nil_append]
 refine go_pure0 Tk rfl rfl rfl ?_
 refine go_appendN (T := tFa) (xs := a) (ys := b) Tk rfl rfl rfl rfl rfl rfl rfl rfl rfl (by repeat constructor) rfl (by repeat constructor) (by omega) (by first | exact (fun _ _ _ => satA) | exact (fun h => nomatch h) | exact (fun h => nomatch (Eq.symm h).trans (show _ = false by kernel_rfl))) ?_
 intro B2 j2
 refine go_freeze_ol (xs := a ++ b) (by repeat constructor) ?_
 refine go_pure0 Tk rfl rfl rfl ?_
 refine go_nil ?_
 refine go_env [(0, _), (1, _), (7, _)] ⟨rfl, rfl, rfl, trivial⟩ ?_
 iterate 5 first | refine go_seq ?_ | refine go_region rfl ?_ | refine go_pure0 Tk rfl rfl rfl ?_
 refine go_call (law14Few l LA lc (a ++ b) B2 j2) rfl rfl (by rfl) rfl (by repeat constructor) (by repeat constructor) (fun h => nomatch h) ?_
 rintro _ _ _ ⟨rfl, rfl, rfl⟩
 refine go_pure0 Tk rfl rfl rfl ?_
 refine go_nil ?_
 refine go_env [(0, _), (1, _), (7, _), (30, _)] ⟨rfl, rfl, rfl, rfl, trivial⟩ ?_
 refine go_cond rfl ?_ ?_
 ·intro g1
  (try simp only [decide_eq_true_eq, decide_eq_false_iff_not, Bool.not_eq_true', Bool.not_eq_false', Bool.not_eq_eq_eq_not, Bool.not_true, Bool.not_false, Int.not_lt, Int.not_le, beq_iff_eq, beq_eq_false_iff_ne, ne_eq] at g1)
  refine go_seq ?_
  refine go_region rfl ?_
  refine go_call (lawWorks14) rfl rfl (by rfl) rfl (by repeat constructor) (by repeat constructor) (fun h => nomatch h) ?_
  rintro _ _ _ ⟨rfl, rfl, rfl⟩
  refine go_pure0 Tk rfl rfl rfl ?_
  refine go_nil ?_
  refine go_env [(6, _)] ⟨rfl, trivial⟩ ?_
  refine go_ret ⟨rfl, rfl⟩ _ _ (res1 (by rfl) (.tmp rfl)) ⟨rfl, rfl, rfl⟩ (by repeat constructor) (by repeat constructor)
 ·intro g1
  (try simp only [decide_eq_true_eq, decide_eq_false_iff_not, Bool.not_eq_true', Bool.not_eq_false', Bool.not_eq_eq_eq_not, Bool.not_true, Bool.not_false, Int.not_lt, Int.not_le, beq_iff_eq, beq_eq_false_iff_ne, ne_eq] at g1)
  iterate 3 first | refine go_skip ?_ | refine go_seq ?_
  have fp := few14_of g1
  obtain ⟨hlen, hal'⟩ := fix_ab fp
  have hal : ∀ x ∈ a ++ b, x.a.length ≤ 30 := hal'
  have hlb : l.length ≤ 20 := fp.1
  have gab : ∀ x ∈ a ++ b, x.ok := fun x hx => (List.mem_append.1 hx).elim (ga x) (gb x)
  have hallab := all14 fp gab
  have halla := all_sub hallab (fun x hx => List.mem_append_left b hx)
  have hfa := fof_len a
  have hfb := fof_len (a ++ b)
  rw [List.length_append] at hfb
  refine go_len (xs := l) (by repeat constructor) (fun ll ml => ?_)
  refine go_region rfl ?_
  refine go_pure0 Tk rfl rfl rfl ?_
  refine go_nil ?_
  refine go_env [(0, _), (1, _), (7, _), (8, _)] ⟨rfl, rfl, rfl, rfl, trivial⟩ ?_
  refine go_block ?_
  refine go_loop' (X := Nat) (fun i => [(8, .int .i64 (i : Int))]) [(0, _), (1, _), (7, _)] (fun _ => []) (fun i => i ≤ l.length ∧ ∀ c ∈ l.take i, ∀ x ∈ c.b, x.no = false) (fun i => l.length - i) (0) ⟨rfl, rfl, rfl, rfl, trivial⟩ (by repeat constructor) ⟨by omega, by simp⟩ ?_
  intro i ⟨hi, hz⟩
  iterate 7 first | refine go_seq ?_ | refine go_region rfl ?_ | refine go_pure0 Tk rfl rfl rfl ?_
  refine go_nil ?_
  refine go_env [(0, _), (1, _), (7, _), (8, _), (35, _)] ⟨rfl, rfl, rfl, rfl, rfl, trivial⟩ ?_
  refine go_condD rfl ?_ ?_
  ·intro hq1
   iterate 4 first | refine go_skip ?_ | refine go_seq ?_ | refine go_block ?_
   refine go_elem_cl (xs := l) (by repeat constructor) (i) (List.getElem?_eq_getElem (by omega)) (fun b1 o1 A1' c1' B1' d1' hA => ?_); cases hA
   refine go_len (xs := l[i].b) (by repeat constructor) (fun l1 m1 => ?_)
   refine go_region rfl ?_
   refine go_pure0 Tk rfl rfl rfl ?_
   refine go_nil ?_
   refine go_env [(0, _), (1, _), (7, _), (8, _), (9, _)] ⟨rfl, rfl, rfl, rfl, rfl, trivial⟩ ?_
   refine go_block ?_
   refine go_loop' (X := Nat) (fun j => [(9, .int .i64 (j : Int))]) [(0, _), (1, _), (7, _), (8, _)] (fun _ => []) (fun j => j ≤ l[i].b.length ∧ ∀ x ∈ l[i].b.take j, x.no = false) (fun j => l[i].b.length - j) (0) ⟨rfl, rfl, rfl, rfl, rfl, trivial⟩ (by repeat constructor) ⟨by omega, by simp⟩ ?_
   intro j ⟨hj, hy⟩
   iterate 6 first | refine go_seq ?_ | refine go_region rfl ?_ | refine go_pure0 Tk rfl rfl rfl ?_
   refine go_val0 rfl (idx_val Tk rfl rfl rfl rfl rfl (by omega)) rfl ?_
   iterate 4 first | refine go_pure0 Tk rfl rfl rfl ?_ | refine go_val0 rfl (ldv Tk rfl rfl rfl) rfl ?_
   refine go_nil ?_
   refine go_env [(0, _), (1, _), (7, _), (8, _), (9, _), (45, _)] ⟨rfl, rfl, rfl, rfl, rfl, rfl, trivial⟩ ?_
   refine go_condD rfl ?_ ?_
   ·intro hq2
    iterate 4 first | refine go_skip ?_ | refine go_seq ?_ | refine go_block ?_
    refine go_elem_li (xs := l[i].b) (by repeat constructor) (j) (List.getElem?_eq_getElem (by omega)) (fun b3 o3 A3' c3' hA => ?_); cases hA
    iterate 3 first | refine go_region rfl ?_ | refine go_pure0 Tk rfl rfl rfl ?_
    refine go_val0 rfl (idx_val Tk rfl rfl rfl rfl rfl (by omega)) rfl ?_
    iterate 3 first | refine go_pure0 Tk rfl rfl rfl ?_ | refine go_val0 rfl (ldv Tk rfl rfl rfl) rfl ?_
    refine go_val0 rfl (idx_val Tk rfl rfl rfl rfl rfl (by omega)) rfl ?_
    refine go_pure0 Tk rfl rfl rfl ?_
    refine go_val0 rfl (ldv Tk rfl rfl rfl) rfl ?_
    refine go_nil ?_
    refine go_env [(0, _), (1, _), (7, _), (8, _), (9, _), (56, _)] ⟨rfl, rfl, rfl, rfl, rfl, rfl, trivial⟩ ?_
    refine go_cond rfl ?_ ?_
    ·intro gn
     (try simp only [decide_eq_true_eq, decide_eq_false_iff_not, Bool.not_eq_true', Bool.not_eq_false', Bool.not_eq_eq_eq_not, Bool.not_true, Bool.not_false, Int.not_lt, Int.not_le, beq_iff_eq, beq_eq_false_iff_ne, ne_eq] at gn)
     refine go_seq ?_
     refine go_region rfl ?_
     refine go_call (lawWorks14) rfl rfl (by rfl) rfl (by repeat constructor) (by repeat constructor) (fun h => nomatch h) ?_
     rintro _ _ _ ⟨rfl, rfl, rfl⟩
     refine go_pure0 Tk rfl rfl rfl ?_
     refine go_nil ?_
     refine go_env [(6, _)] ⟨rfl, trivial⟩ ?_
     refine go_ret ⟨rfl, rfl⟩ _ _ (res1 (by rfl) (.tmp rfl)) ⟨rfl, rfl, rfl⟩ (by repeat constructor) (by repeat constructor)
    ·intro gn
     (try simp only [decide_eq_true_eq, decide_eq_false_iff_not, Bool.not_eq_true', Bool.not_eq_false', Bool.not_eq_eq_eq_not, Bool.not_true, Bool.not_false, Int.not_lt, Int.not_le, beq_iff_eq, beq_eq_false_iff_ne, ne_eq] at gn)
     refine go_skip ?_
     refine go_blk ?_
     iterate 4 first | refine go_region rfl ?_ | refine go_pure0 Tk rfl rfl rfl ?_
     refine go_nil ?_
     refine go_i64 9 rfl (by omega) (by omega) ?_
     refine go_back (j + 1) ⟨rfl, rfl, rfl, rfl, rfl, trivial⟩ (by repeat constructor) (by repeat constructor) (⟨by omega, mem_take_next (by omega) hy gn⟩) (by omega)
   ·intro hq2
    refine go_exit rfl ?_
    refine go_blk ?_
    iterate 4 first | refine go_region rfl ?_ | refine go_pure0 Tk rfl rfl rfl ?_
    refine go_nil ?_
    refine go_i64 8 rfl (by omega) (by omega) ?_
    refine go_back (i + 1) ⟨rfl, rfl, rfl, rfl, trivial⟩ (by repeat constructor) (by repeat constructor) (⟨by omega, mem_take_next (by omega) hz (by rw [List.take_of_length_le (by omega)] at hy; exact hy)⟩) (by omega)
  ·intro hq1
   refine go_exit rfl ?_
   refine go_seq ?_
   have hnn : noNot l := fun c hc => by rw [List.take_of_length_le (by omega)] at hz; exact hz c hc
   iterate 3 first | refine go_region rfl ?_ | refine go_pure0 Tk rfl rfl rfl ?_
   refine go_call (relOf A ka (a) (by first | omega | (simp only [List.length_append]; omega)) (fun x hx => Nat.le_trans (hal x (by first | exact hx | exact List.mem_append_left _ hx | exact List.mem_append_right _ hx)) (by omega))) rfl rfl (by rfl) rfl (by repeat constructor) (by repeat constructor) (fun h => nomatch h) ?_
   rintro _ _ _ ⟨r1, rfl, rfl, rfl⟩
   refine go_freeze_rel (b := r1) (by repeat constructor) ?_
   refine go_ent (relN (some ⟨r1, 0, none⟩) (fof (a))) (fun hh hps => relN_some (hps (relP r1 (fof (a))) (by repeat constructor))) ?_
   refine go_call (fixLeast l LA lc (some ⟨r1, 0, none⟩) (fof a) 60 gl halla (rises_fof _) (by omega) (big14 fp (by omega) _) (by omega)) rfl rfl (by rfl) rfl (by repeat constructor) (by repeat constructor) (fun h => nomatch h) ?_
   rintro _ _ _ ⟨rA, nA, eA, pA, hLA, rfl, rfl, rfl⟩
   iterate 7 refine go_pure0 Tk rfl rfl rfl ?_
   refine go_nil ?_
   refine go_env [(0, _), (7, _), (10, _), (12, _)] ⟨rfl, rfl, rfl, rfl, trivial⟩ ?_
   iterate 4 first | refine go_seq ?_ | refine go_region rfl ?_ | refine go_pure0 Tk rfl rfl rfl ?_
   refine go_call (relOf B2 j2 (a ++ b) (by first | omega | (simp only [List.length_append]; omega)) (fun x hx => Nat.le_trans (hal x (by first | exact hx | exact List.mem_append_left _ hx | exact List.mem_append_right _ hx)) (by omega))) rfl rfl (by rfl) rfl (by repeat constructor) (by repeat constructor) (fun h => nomatch h) ?_
   rintro _ _ _ ⟨r2, rfl, rfl, rfl⟩
   refine go_freeze_rel (b := r2) (by repeat constructor) ?_
   refine go_ent (relN (some ⟨r2, 0, none⟩) (fof (a ++ b))) (fun hh hps => relN_some (hps (relP r2 (fof (a ++ b))) (by repeat constructor))) ?_
   refine go_call (fixLeast l LA lc (some ⟨r2, 0, none⟩) (fof (a ++ b)) 60 gl hallab (rises_fof _) (by omega) (big14 fp (by omega) _) (by omega)) rfl rfl (by rfl) rfl (by repeat constructor) (by repeat constructor) (fun h => nomatch h) ?_
   rintro _ _ _ ⟨rB, nB, eB, pB, hLB, rfl, rfl, rfl⟩
   iterate 7 refine go_pure0 Tk rfl rfl rfl ?_
   refine go_nil ?_
   refine go_env [(0, _), (10, _), (12, _), (13, _), (15, _)] ⟨rfl, rfl, rfl, rfl, rfl, trivial⟩ ?_
   iterate 2 refine go_seq ?_
   by_cases hAB : eA = 0 ∧ eB = 0
   ·skip
    obtain ⟨hA, hB⟩ := hAB
    obtain ⟨_, kA, rfl, rfl, hmA, hfxA, hsA, hknA, hnA⟩ := (least_cases hLA).resolve_right (fun q => q.1 hA)
    refine go_relRs (S := Sq l (fof a) kA) (by repeat constructor) (fun ba hbA => ?_)
    subst hbA
    refine go_freeze_rel (b := ba) (by repeat constructor) ?_
    refine go_ent (relN (some ⟨ba, 0, none⟩) (Sq l (fof a) kA)) (fun hh hps => relN_some (hps (relP ba (Sq l (fof a) kA)) (by repeat constructor))) ?_
    obtain ⟨_, kB, rfl, rfl, hmB, hfxB, hsB, hknB, hnB⟩ := (least_cases hLB).resolve_right (fun q => q.1 hB)
    refine go_relRs (S := Sq l (fof (a ++ b)) kB) (by repeat constructor) (fun bb hbB => ?_)
    subst hbB
    refine go_freeze_rel (b := bb) (by repeat constructor) ?_
    refine go_ent (relN (some ⟨bb, 0, none⟩) (Sq l (fof (a ++ b)) kB)) (fun hh hps => relN_some (hps (relP bb (Sq l (fof (a ++ b)) kB)) (by repeat constructor))) ?_
    iterate 3 first | refine go_region rfl ?_ | refine go_pure0 Tk rfl rfl rfl ?_
    refine go_re 75 (.bool false) (by show some (Value.bool _) = _; simp [hA]) ?_
    iterate 3 refine go_pure0 Tk rfl rfl rfl ?_
    refine go_re 78 (.bool false) (by show some (Value.bool _) = _; simp [hB]) ?_
    refine go_pure0 Tk rfl rfl rfl ?_
    refine go_nil ?_
    refine go_env [(0, _), (10, _), (12, _), (13, _), (15, _), (79, _)] ⟨rfl, rfl, rfl, rfl, rfl, rfl, trivial⟩ ?_
    refine go_cond_f rfl ?_
    iterate 5 first | refine go_skip ?_ | refine go_seq ?_ | refine go_region rfl ?_ | refine go_pure0 Tk rfl rfl rfl ?_
    refine go_call (fixLeast l LA lc (some ⟨ba, 0, none⟩) (Sq l (fof a) kA) 60 gl (Sq_ok gl halla kA) (rises_Sq (rises_fof _) _) (by omega) (big14 fp (by omega) _) (by omega)) rfl rfl (by rfl) rfl (by repeat constructor) (by repeat constructor) (fun h => nomatch h) ?_
    rintro _ _ _ ⟨rC, nC, eC, pC, hLC, rfl, rfl, rfl⟩
    obtain ⟨hC, rfl, rfl⟩ := least_self gl hnn hnA hfxA hsA hLC
    refine go_relRs (S := Sq l (fof a) kA) (by repeat constructor) (fun bc hbC => ?_)
    subst hbC
    refine go_freeze_rel (b := bc) (by repeat constructor) ?_
    refine go_ent (relN (some ⟨bc, 0, none⟩) (Sq l (fof a) kA)) (fun hh hps => relN_some (hps (relP bc (Sq l (fof a) kA)) (by repeat constructor))) ?_
    iterate 7 refine go_pure0 Tk rfl rfl rfl ?_
    refine go_nil ?_
    refine go_env [(10, _), (13, _), (16, _), (18, _)] ⟨rfl, rfl, rfl, rfl, trivial⟩ ?_
    iterate 5 first | refine go_seq ?_ | refine go_region rfl ?_ | refine go_pure0 Tk rfl rfl rfl ?_
    refine go_re 97 (.bool false) (by show some (Value.bool _) = _; rw [hC]; rfl) ?_
    iterate 2 refine go_pure0 Tk rfl rfl rfl ?_
    refine go_call (relListN (some ⟨bc, 0, none⟩) (Sq l (fof a) kA) (by omega) (fun x hx => (Sq_ok gl halla kA x hx).2)) rfl rfl (by rfl) rfl (by repeat constructor) (by repeat constructor) (fun h => nomatch h) ?_
    rintro _ _ _ ⟨D1, eD1, rfl, rfl, rfl⟩
    refine go_freeze_dl (T := tFa) (A := D1) (xs := Sq l (fof a) kA) (by repeat constructor) ?_
    refine go_pure0 Tk rfl rfl rfl ?_
    refine go_call (relListN (some ⟨ba, 0, none⟩) (Sq l (fof a) kA) (by omega) (fun x hx => (Sq_ok gl halla kA x hx).2)) rfl rfl (by rfl) rfl (by repeat constructor) (by repeat constructor) (fun h => nomatch h) ?_
    rintro _ _ _ ⟨D2, eD2, rfl, rfl, rfl⟩
    refine go_freeze_dl (T := tFa) (A := D2) (xs := Sq l (fof a) kA) (by repeat constructor) ?_
    refine go_call (ref13Same D1 eD1 (Sq l (fof a) kA) D2 eD2 (Sq l (fof a) kA)) rfl rfl (by rfl) rfl (by repeat constructor) (by repeat constructor) (fun h => nomatch h) ?_
    rintro _ _ _ ⟨rfl, rfl, rfl⟩
    have hCs : Sq l (fof a) kA = Sq l (fof a) kA := rfl
    refine go_pure0 Tk rfl rfl rfl ?_
    refine go_re 104 (.bool false) (by show some (Value.bool _) = _; rw [decide_eq_true hCs]; rfl) ?_
    refine go_pure0 Tk rfl rfl rfl ?_
    refine go_nil ?_
    refine go_env [(10, _), (13, _), (105, _)] ⟨rfl, rfl, rfl, trivial⟩ ?_
    refine go_cond_f rfl ?_
    refine go_skip ?_
    refine go_seq ?_
    refine go_region rfl ?_
    refine go_pure0 Tk rfl rfl rfl ?_
    refine go_call (relListN (some ⟨ba, 0, none⟩) (Sq l (fof a) kA) (by omega) (fun x hx => (Sq_ok gl halla kA x hx).2)) rfl rfl (by rfl) rfl (by repeat constructor) (by repeat constructor) (fun h => nomatch h) ?_
    rintro _ _ _ ⟨D3, eD3, rfl, rfl, rfl⟩
    refine go_freeze_dl (T := tFa) (A := D3) (xs := Sq l (fof a) kA) (by repeat constructor) ?_
    refine go_pure0 Tk rfl rfl rfl ?_
    refine go_nil ?_
    refine go_env [(13, _), (19, _)] ⟨rfl, rfl, trivial⟩ ?_
    refine go_seq ?_
    refine go_region rfl ?_
    refine go_pure0 Tk rfl rfl rfl ?_
    refine go_call (relListN (some ⟨bb, 0, none⟩) (Sq l (fof (a ++ b)) kB) (by omega) (fun x hx => (Sq_ok gl hallab kB x hx).2)) rfl rfl (by rfl) rfl (by repeat constructor) (by repeat constructor) (fun h => nomatch h) ?_
    rintro _ _ _ ⟨D4, eD4, rfl, rfl, rfl⟩
    refine go_freeze_dl (T := tFa) (A := D4) (xs := Sq l (fof (a ++ b)) kB) (by repeat constructor) ?_
    refine go_pure0 Tk rfl rfl rfl ?_
    refine go_nil ?_
    refine go_env [(19, _), (20, _)] ⟨rfl, rfl, trivial⟩ ?_
    iterate 2 refine go_seq ?_
    refine go_len (xs := Sq l (fof a) kA) (by repeat constructor) (fun ls ms => ?_)
    have hsub : ∀ x ∈ Sq l (fof a) kA, x ∈ Sq l (fof (a ++ b)) kB := fun x hx => closed_in gl hnn hnB (fun y hy => Sq_mono l (fof (a ++ b)) (Nat.zero_le kB) y (fof_app_l y hy)) kA x hx
    refine go_region rfl ?_
    refine go_pure0 Tk rfl rfl rfl ?_
    refine go_nil ?_
    refine go_env [(19, _), (20, _), (21, _)] ⟨rfl, rfl, rfl, trivial⟩ ?_
    refine go_block ?_
    refine go_loop' (X := Nat) (fun m => [(21, .int .i64 (m : Int))]) [(19, _), (20, _)] (fun _ => []) (fun m => m ≤ (Sq l (fof a) kA).length) (fun m => (Sq l (fof a) kA).length - m) (0) ⟨rfl, rfl, rfl, trivial⟩ (by repeat constructor) (by omega) ?_
    intro m hm
    iterate 7 first | refine go_seq ?_ | refine go_region rfl ?_ | refine go_pure0 Tk rfl rfl rfl ?_
    refine go_nil ?_
    refine go_env [(19, _), (20, _), (21, _), (113, _)] ⟨rfl, rfl, rfl, rfl, trivial⟩ ?_
    refine go_condD rfl ?_ ?_
    ·intro hq3
     iterate 4 first | refine go_skip ?_ | refine go_seq ?_ | refine go_block ?_
     refine go_elem_fa (xs := Sq l (fof a) kA) (by repeat constructor) (m) (List.getElem?_eq_getElem (by omega)) (fun b6 o6 A6 c6 hA => ?_); cases hA
     iterate 4 first | refine go_region rfl ?_ | refine go_pure0 Tk rfl rfl rfl ?_
     refine go_val0 rfl (idx_val Tk rfl rfl rfl rfl rfl (by omega)) rfl ?_
     refine go_val0 rfl (ldv Tk rfl rfl rfl) rfl ?_
     refine go_call (ref13Has D4 eD4 (Sq l (fof (a ++ b)) kB) (Sq l (fof a) kA)[m] A6 c6) rfl rfl (by rfl) rfl (by repeat constructor) (by repeat constructor) (fun h => nomatch h) ?_
     rintro _ _ _ ⟨rfl, rfl, rfl⟩
     refine go_pure0 Tk rfl rfl rfl ?_
     refine go_re 122 (.bool false) (by show some (Value.bool _) = _; rw [decide_eq_true (hsub _ (List.getElem_mem (by omega)))]; rfl) ?_
     refine go_nil ?_
     refine go_env [(19, _), (20, _), (21, _), (122, _)] ⟨rfl, rfl, rfl, rfl, trivial⟩ ?_
     refine go_cond_f rfl ?_
     refine go_skip ?_
     refine go_blk ?_
     iterate 4 first | refine go_region rfl ?_ | refine go_pure0 Tk rfl rfl rfl ?_
     refine go_nil ?_
     refine go_i64 21 rfl (by omega) (by omega) ?_
     refine go_back (m + 1) ⟨rfl, rfl, rfl, trivial⟩ (by repeat constructor) (by repeat constructor) (by omega) (by omega)
    ·intro hq3
     refine go_exit rfl ?_
     refine go_seq ?_
     refine go_region rfl ?_
     refine go_call (lawWorks14) rfl rfl (by rfl) rfl (by repeat constructor) (by repeat constructor) (fun h => nomatch h) ?_
     rintro _ _ _ ⟨rfl, rfl, rfl⟩
     refine go_pure0 Tk rfl rfl rfl ?_
     refine go_nil ?_
     refine go_env [(6, _)] ⟨rfl, trivial⟩ ?_
     refine go_ret ⟨rfl, rfl⟩ _ _ (res1 (by rfl) (.tmp rfl)) ⟨rfl, rfl, rfl⟩ (by repeat constructor) (by repeat constructor)
   ·skip
    have hcs := least_cases hLA
    have hds := least_cases hLB
    have hor : ¬ eB = 0 ∨ eA = 1 := by
      rcases hcs with ⟨e1, _⟩ | ⟨e1, _, _, e3⟩
      · exact .inl (fun q => hAB ⟨e1, q⟩)
      · rcases e3 with ⟨e3, _⟩ | ⟨_, _, e4, k, e5⟩
        · exact .inr e3
        · refine .inl fun q => ?_
          obtain ⟨_, m, _, _, _, _, e6, _, e7⟩ := hds.resolve_right (fun z => z.1 q)
          have := sub_len (rises_Sq (rises_fof a) k) (fun x hx => Sq_in e7 k x (Sq_more gl hnn fof_app_l k x hx))
          omega
    iterate 4 first | refine go_region rfl ?_ | refine go_pure0 Tk rfl rfl rfl ?_
    refine go_known 76 rfl ?_ ?_
    ·intro gx
     (try simp only [decide_eq_true_eq, decide_eq_false_iff_not, Bool.not_eq_true', Bool.not_eq_false', Bool.not_eq_eq_eq_not, Bool.not_true, Bool.not_false, Int.not_lt, Int.not_le, beq_iff_eq, beq_eq_false_iff_ne, ne_eq] at gx)
     iterate 3 first | refine go_skip0 rfl rfl ?_ | refine go_pure0 Tk rfl rfl rfl ?_
     refine go_nil ?_
     refine go_env [(0, _), (10, _), (12, _), (13, _), (15, _), (79, _)] ⟨rfl, rfl, rfl, rfl, rfl, rfl, trivial⟩ ?_
     refine go_cond_t rfl ?_
     iterate 5 first | refine go_seq ?_ | refine go_region rfl ?_ | refine go_pure0 Tk rfl rfl rfl ?_
     refine go_known 82 rfl ?_ ?_
     ·intro gy
      (try simp only [decide_eq_true_eq, decide_eq_false_iff_not, Bool.not_eq_true', Bool.not_eq_false', Bool.not_eq_eq_eq_not, Bool.not_true, Bool.not_false, Int.not_lt, Int.not_le, beq_iff_eq, beq_eq_false_iff_ne, ne_eq] at gy)
      iterate 4 first | refine go_skip0 rfl rfl ?_ | refine go_pure0 Tk rfl rfl rfl ?_
      refine go_call (lawWorks14) rfl rfl (by rfl) rfl (by repeat constructor) (by repeat constructor) (fun h => nomatch h) ?_
      rintro _ _ _ ⟨rfl, rfl, rfl⟩
      iterate 2 refine go_pure0 Tk rfl rfl rfl ?_
      refine go_nil ?_
      refine go_env [(6, _)] ⟨rfl, trivial⟩ ?_
      refine go_ret ⟨rfl, rfl⟩ _ _ (res1 (by rfl) (.tmp rfl)) ⟨rfl, rfl, rfl⟩ (by repeat constructor) (by repeat constructor)
     ·intro gy
      (try simp only [decide_eq_true_eq, decide_eq_false_iff_not, Bool.not_eq_true', Bool.not_eq_false', Bool.not_eq_eq_eq_not, Bool.not_true, Bool.not_false, Int.not_lt, Int.not_le, beq_iff_eq, beq_eq_false_iff_ne, ne_eq] at gy)
      iterate 2 refine go_pure0 Tk rfl rfl rfl ?_
      refine go_re 84 (.bool true) (by show some (Value.bool _) = _; rw [decide_eq_true (by omega)]) ?_
      iterate 2 refine go_pure0 Tk rfl rfl rfl ?_
      refine go_call (lawWorks14) rfl rfl (by rfl) rfl (by repeat constructor) (by repeat constructor) (fun h => nomatch h) ?_
      rintro _ _ _ ⟨rfl, rfl, rfl⟩
      iterate 2 refine go_pure0 Tk rfl rfl rfl ?_
      refine go_nil ?_
      refine go_env [(6, _)] ⟨rfl, trivial⟩ ?_
      refine go_ret ⟨rfl, rfl⟩ _ _ (res1 (by rfl) (.tmp rfl)) ⟨rfl, rfl, rfl⟩ (by repeat constructor) (by repeat constructor)
    ·intro gx
     (try simp only [decide_eq_true_eq, decide_eq_false_iff_not, Bool.not_eq_true', Bool.not_eq_false', Bool.not_eq_eq_eq_not, Bool.not_true, Bool.not_false, Int.not_lt, Int.not_le, beq_iff_eq, beq_eq_false_iff_ne, ne_eq] at gx)
     iterate 3 refine go_pure0 Tk rfl rfl rfl ?_
     refine go_nil ?_
     refine go_env [(0, _), (10, _), (12, _), (13, _), (15, _), (79, _)] ⟨rfl, rfl, rfl, rfl, rfl, rfl, trivial⟩ ?_
     refine go_cond rfl ?_ ?_
     ·intro hq4
      (try simp only [decide_eq_true_eq, decide_eq_false_iff_not, Bool.not_eq_true', Bool.not_eq_false', Bool.not_eq_eq_eq_not, Bool.not_true, Bool.not_false, Int.not_lt, Int.not_le, beq_iff_eq, beq_eq_false_iff_ne, ne_eq] at hq4)
      iterate 5 first | refine go_seq ?_ | refine go_region rfl ?_ | refine go_pure0 Tk rfl rfl rfl ?_
      refine go_known 82 rfl ?_ ?_
      ·intro gy
       (try simp only [decide_eq_true_eq, decide_eq_false_iff_not, Bool.not_eq_true', Bool.not_eq_false', Bool.not_eq_eq_eq_not, Bool.not_true, Bool.not_false, Int.not_lt, Int.not_le, beq_iff_eq, beq_eq_false_iff_ne, ne_eq] at gy)
       iterate 4 first | refine go_skip0 rfl rfl ?_ | refine go_pure0 Tk rfl rfl rfl ?_
       refine go_call (lawWorks14) rfl rfl (by rfl) rfl (by repeat constructor) (by repeat constructor) (fun h => nomatch h) ?_
       rintro _ _ _ ⟨rfl, rfl, rfl⟩
       iterate 2 refine go_pure0 Tk rfl rfl rfl ?_
       refine go_nil ?_
       refine go_env [(6, _)] ⟨rfl, trivial⟩ ?_
       refine go_ret ⟨rfl, rfl⟩ _ _ (res1 (by rfl) (.tmp rfl)) ⟨rfl, rfl, rfl⟩ (by repeat constructor) (by repeat constructor)
      ·intro gy
       (try simp only [decide_eq_true_eq, decide_eq_false_iff_not, Bool.not_eq_true', Bool.not_eq_false', Bool.not_eq_eq_eq_not, Bool.not_true, Bool.not_false, Int.not_lt, Int.not_le, beq_iff_eq, beq_eq_false_iff_ne, ne_eq] at gy)
       iterate 2 refine go_pure0 Tk rfl rfl rfl ?_
       refine go_re 84 (.bool true) (by show some (Value.bool _) = _; rw [decide_eq_true (by omega)]) ?_
       iterate 2 refine go_pure0 Tk rfl rfl rfl ?_
       refine go_call (lawWorks14) rfl rfl (by rfl) rfl (by repeat constructor) (by repeat constructor) (fun h => nomatch h) ?_
       rintro _ _ _ ⟨rfl, rfl, rfl⟩
       iterate 2 refine go_pure0 Tk rfl rfl rfl ?_
       refine go_nil ?_
       refine go_env [(6, _)] ⟨rfl, trivial⟩ ?_
       refine go_ret ⟨rfl, rfl⟩ _ _ (res1 (by rfl) (.tmp rfl)) ⟨rfl, rfl, rfl⟩ (by repeat constructor) (by repeat constructor)
     ·intro hq4
      (try simp only [decide_eq_true_eq, decide_eq_false_iff_not, Bool.not_eq_true', Bool.not_eq_false', Bool.not_eq_eq_eq_not, Bool.not_true, Bool.not_false, Int.not_lt, Int.not_le, beq_iff_eq, beq_eq_false_iff_ne, ne_eq] at hq4)
      exfalso; first | omega | simp_all

end Go.Proofs.Ytkhddfknpegpmaa.SL

/- The rows: what the arguments that a row lets in are, in the engine's words; the law's contract as the row. -/
set_option linter.unusedVariables false
set_option linter.unusedSimpArgs false
namespace Go.Proofs.Ytkhddfknpegpmaa.SL
open Go.RowKit Go.Deep
def Opens (P : Program) (t : TypeId) {α : Type} (T : Ty α) (G : α → Prop) : Prop :=
  ∀ {H : Type} {enc : TypeId × Value → H} {W : World} {base : Nat} {sp : Nat → Bool} {hd : Bool} {fuel : Nat} {cs : List Value} {x : DataW H × List MemPlace}, DataW.trod enc P W base sp hd fuel t cs = some x → ∃ v, T.rep (hpOf W) v cs ∧ G v
theorem wf_u32 {n : Int} (h : (Lit.int .u32 n).wf = true) : 0 ≤ n ∧ n < 4294967296 := by
  simp [Lit.wf, IntKind.min, IntKind.max, IntKind.signed, IntKind.bits] at h; omega
section
variable {P : Program}
theorem opens_int {t : TypeId} {k : IntKind} (ht : P.underlying t = some (.int k)) : Opens P t (tInt k) (fun n => (Lit.int k n).wf = true) := fun h => by
  obtain ⟨n, rfl, _, hw⟩ := DataW.trod_int ht h
  exact ⟨n, rfl, hw⟩
theorem opens_bool {t : TypeId} (ht : P.underlying t = some .bool) : Opens P t tBool (fun _ => True) := fun h => by
  obtain ⟨n, rfl, _⟩ := DataW.trod_bool ht h
  exact ⟨n, rfl, trivial⟩
theorem opens_iso {t : TypeId} {α β : Type} {T : Ty β} {G : β → Prop} {G' : α → Prop} (f : α → β) (g : β → α) (o : Opens P t T G) (hg : ∀ b, f (g b) = b) (hG : ∀ b, G b → G' (g b)) : Opens P t (tIso T f) G' := fun h => by
  obtain ⟨v, r, q⟩ := o h
  exact ⟨g v, by show T.rep _ (f (g v)) _; rw [hg]; exact r, hG v q⟩
theorem opens_pair {t : TypeId} {f0 f1 : Field} {α β : Type} {T : Ty α} {U : Ty β} {G : α → Prop} {K : β → Prop} (ht : P.underlying t = some (.struct #[f0, f1])) (o0 : Opens P f0.type T G) (o1 : Opens P f1.type U K)
    (h0 : f0.offset = 0) (h1 : f1.offset = T.size) (c0 : P.cellsOf f0.type = T.size) (c1 : P.cellsOf f1.type = U.size) (ct : P.cellsOf t = T.size + U.size) : Opens P t (tPair T U) (fun x => G x.1 ∧ K x.2) := fun h => by
  obtain ⟨xs, n, _, rfl, hl, hlen, hf⟩ := DataW.trod_struct ht h
  match xs, hlen with
  | [y0, y1], _ =>
    have e0 := hf 0 f0 rfl
    have e1 := hf 1 f1 rfl
    obtain ⟨v0, r0, g0⟩ := o0 (by simpa using e0)
    obtain ⟨v1, r1, g1⟩ := o1 (by simpa using e1)
    refine ⟨(v0, v1), ⟨_, _, ?_, r0, r1⟩, g0, g1⟩
    rw [h0, h1, c0, c1, List.drop_zero]
    rw [ct] at hl
    rw [List.take_of_length_le (l := List.drop _ _) (by simp; omega), List.take_append_drop]
theorem opens_slice {t e : TypeId} {α : Type} {T : Ty α} {G : α → Prop} (ht : P.underlying t = some (.slice e)) (o : Opens P e T G) (hc : P.cellsOf e = T.size) (hp : 0 < T.size) : Opens P t (tSl T) (fun xs => ∀ x ∈ xs, G x) := fun {H enc W base sp hd fuel cs x} h => by
  rcases open_slice ht h with ⟨rfl, _⟩ | ⟨a, len, cap, m, n, D, Pl, rfl, hb, hl, hm, hmm, rfl, hx⟩
  · exact ⟨[], ⟨none, 0, rfl, by simp, by simp [maxLen], fun _ => rfl, fun j x hj => by simp at hj⟩, fun x hx => by cases hx⟩
  · have hlm : len ≤ m := by rw [hmm]; split <;> omega
    have el : ∀ i, i < len → ∃ v, (∃ cs, T.rep (hpOf W) v cs ∧ W.cells? base (a.add (i * T.size)) T.size = some cs) ∧ G v := fun i hi => by
      obtain ⟨cs', h1, h2⟩ := hx i (by omega)
      obtain ⟨v, r, g⟩ := o h2
      rw [hc] at h1
      exact ⟨v, ⟨cs', r, h1⟩, g⟩
    have ex : ∃ xs : List α, xs.length = len ∧ ∀ i x, xs[i]? = some x → (∃ cs, T.rep (hpOf W) x cs ∧ W.cells? base (a.add (i * T.size)) T.size = some cs) ∧ G x := by
      have key : ∀ k, k ≤ len → ∃ xs : List α, xs.length = k ∧ ∀ i x, xs[i]? = some x → (∃ cs, T.rep (hpOf W) x cs ∧ W.cells? base (a.add (i * T.size)) T.size = some cs) ∧ G x := by
        intro k
        induction k with
        | zero => exact fun _ => ⟨[], rfl, fun i x hx => by simp at hx⟩
        | succ k ih =>
          intro hk
          obtain ⟨xs, h1, h2⟩ := ih (by omega)
          obtain ⟨v, hv⟩ := el k (by omega)
          refine ⟨xs ++ [v], by simp [h1], fun i x hx => ?_⟩
          rw [List.getElem?_append] at hx
          split at hx
          · exact h2 i x hx
          · rename_i hlt
            have : i = k := by
              rcases Nat.eq_or_lt_of_le (show xs.length ≤ i by omega) with q | q
              · omega
              · rw [List.getElem?_eq_none (by simp; omega)] at hx; cases hx
            subst this
            simp [h1] at hx
            subst hx
            exact hv
      exact key len (Nat.le_refl _)
    obtain ⟨xs, h1, h2⟩ := ex
    refine ⟨xs, ⟨some a, cap, by rw [h1], by omega, hm, fun e => (by cases e), fun j x hj => ?_⟩, fun x hx => ?_⟩
    · obtain ⟨⟨cs, r, hcs⟩, _⟩ := h2 j x hj
      obtain ⟨_, hln, hget⟩ := World.cells?_some hcs
      have hspot : a.spot = none := by
        obtain ⟨v0, hv0⟩ : ∃ v, xs[0]? = some v := by
          cases xs with
          | nil => simp at hj
          | cons v l => exact ⟨v, rfl⟩
        obtain ⟨⟨cs0, _, hcs0⟩, _⟩ := h2 0 v0 hv0
        obtain ⟨_, hln0, hget0⟩ := World.cells?_some hcs0
        have := hget0 0 hp
        rw [List.getElem?_eq_getElem (by omega)] at this
        simp only [Nat.zero_mul, Addr.add, if_true, World.cell?] at this
        split at this
        · cases hs : a.spot with
          | none => rfl
          | some q => rw [hs] at this; simp at this
        · cases this
      obtain ⟨b, oo, sp0⟩ := a
      cases hspot
      refine ⟨b, oo, cs, rfl, r, fun i v hi => ?_⟩
      have hlt : i < T.size := by
        rw [← hln]
        rcases Nat.lt_or_ge i cs.length with q | q
        · exact q
        · simp [q] at hi
      have := hget i hlt
      rw [run_addOff, run_addOff, hi] at this
      unfold World.cell? at this
      unfold cellH hpOf
      rw [Nat.add_assoc] at this
      simp only at this ⊢
      split at this
      · rename_i e
        simp only [e]
        simpa using this
      · cases this
    · obtain ⟨j, hj, rfl⟩ := List.getElem_of_mem hx
      exact (h2 j _ (List.getElem?_eq_getElem hj)).2
/-- The contract of a law gives what the row asks. -/
theorem Spec.law {f : FuncId} {args : Array Value} {Ps : List PA} (s : Spec P f args Ps [] (fun v Ps' Os' => v = .bool true ∧ Ps' = [] ∧ Os' = [])) (W : World) (h : ∀ p, p ∈ Ps → p.p (hpOf W)) :
    Calls P f args W fun e W' => e = .returned (.bool true) ∧ Below W.heap.size W W' := by
  refine (s.calls W (hpOf W) Heap.nil Heap.nil ⟨Heap.le_refl _, Heap.nil_le _, Heap.dj_symm (Heap.nil_dj _), h, trivial⟩ (Heap.nil_le _) (Heap.nil_dj _) (Heap.nil_dj _)).mono ?_
  rintro e w' ⟨v, hp', ho', Ps', Os', rfl, ⟨rfl, _, _⟩, hs, hle, _, _, _, hr⟩
  refine ⟨rfl, hr.os, hr.tape, hr.output, hr.size, fun k hk => ?_⟩
  have h1 : hpOf W k = some W.heap[k] := by simp [hpOf, hk]
  have h2 := hs.inp _ _ (hle _ _ h1)
  unfold hpOf at h1 h2
  rw [h1, h2]
end
end Go.Proofs.Ytkhddfknpegpmaa.SL

/- The openings of this seat's types. -/
set_option linter.unusedVariables false
namespace Go.Proofs.Ytkhddfknpegpmaa.SL
theorem opU : Opens Try.prog 22 tU (fun n => 0 ≤ n ∧ n < 4294967296) := fun h => (opens_int Try.underlying22 h).imp fun v q => ⟨q.1, wf_u32 q.2⟩
theorem opUs : Opens Try.prog 39 (tSl tU) (fun xs => ∀ x ∈ xs, (fun n : Int => 0 ≤ n ∧ n < 4294967296) x) := opens_slice Try.underlying39 opU (by kernel_rfl) (by decide)
theorem opFa : Opens Try.prog 41 tFa Fa.ok := opens_iso (fun x : Fa => (x.p, x.a)) (fun b => ⟨b.1, b.2⟩) (opens_pair Try.underlying41 opU opUs rfl rfl (by kernel_rfl) (by kernel_rfl) (by kernel_rfl)) (fun b => rfl) (fun b g => g)
theorem opFas : Opens Try.prog 29 (tSl tFa) (fun xs => ∀ x ∈ xs, Fa.ok x) := opens_slice Try.underlying29 opFa (by kernel_rfl) (by decide)
theorem opTm : Opens Try.prog 62 tTm Tm.ok := opens_iso (fun x : Tm => (x.v, x.n)) (fun b => ⟨b.1, b.2⟩) (opens_pair Try.underlying62 (opens_bool Try.underlying4) opU rfl rfl (by kernel_rfl) (by kernel_rfl) (by kernel_rfl)) (fun b => rfl) (fun b g => g.2)
theorem opTms : Opens Try.prog 23 (tSl tTm) (fun xs => ∀ x ∈ xs, Tm.ok x) := opens_slice Try.underlying23 opTm (by kernel_rfl) (by decide)
theorem opAm : Opens Try.prog 25 tAm Am.ok := opens_iso (fun x : Am => (x.p, x.a)) (fun b => ⟨b.1, b.2⟩) (opens_pair Try.underlying25 opU opTms rfl rfl (by kernel_rfl) (by kernel_rfl) (by kernel_rfl)) (fun b => rfl) (fun b g => g)
theorem opLi : Opens Try.prog 44 tLi (fun x : Li => x.a.ok) := opens_iso (fun x : Li => (x.no, x.a)) (fun b => ⟨b.1, b.2⟩) (opens_pair Try.underlying44 (opens_bool Try.underlying4) opAm rfl rfl (by kernel_rfl) (by kernel_rfl) (by kernel_rfl)) (fun b => rfl) (fun b g => g.2)
theorem opLis : Opens Try.prog 26 (tSl tLi) (fun xs => ∀ x ∈ xs, (fun x : Li => x.a.ok) x) := opens_slice Try.underlying26 opLi (by kernel_rfl) (by decide)
theorem opCl : Opens Try.prog 28 tCl Cl.ok := opens_iso (fun x : Cl => (x.h, x.b)) (fun b => ⟨b.1, b.2⟩) (opens_pair Try.underlying28 opAm opLis rfl rfl (by kernel_rfl) (by kernel_rfl) (by kernel_rfl)) (fun b => rfl) (fun b g => ⟨g.1, g.2⟩)
theorem opCls : Opens Try.prog 49 (tSl tCl) (fun xs => ∀ x ∈ xs, Cl.ok x) := opens_slice Try.underlying49 opCl (by kernel_rfl) (by decide)
end Go.Proofs.Ytkhddfknpegpmaa.SL

/- Rows: how long an argument can be. -/
set_option linter.unusedVariables false
namespace Go.Proofs.Ytkhddfknpegpmaa.SL
end Go.Proofs.Ytkhddfknpegpmaa.SL

