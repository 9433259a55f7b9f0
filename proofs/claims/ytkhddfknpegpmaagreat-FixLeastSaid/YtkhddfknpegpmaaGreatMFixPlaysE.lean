/- Engine, data and contracts: parts of the proof of FixPlays, put together (Law14a DH DI). -/
import Derived.Test.YtkhddfknpegpmaaGreatMFixPlaysD
import Derived.Test.YtkhddfknpegpmaaGreatMFixPlaysC
/- Contracts of functions of the program (Law14a): what each call comes to, for the laws' proofs. -/
set_option linter.unusedVariables false
set_option linter.unusedSimpArgs false
namespace Go.Proofs.YtkhddfknpegpmaaGreat.SL
open Go 

def wc14 : Cl := ⟨⟨1, [⟨true, 0⟩, ⟨true, 2⟩]⟩, [⟨false, ⟨1, [⟨true, 0⟩, ⟨true, 1⟩]⟩⟩, ⟨false, ⟨1, [⟨true, 1⟩, ⟨true, 2⟩]⟩⟩]⟩
def wn14 : List Fa := [(⟨1, [10, 11]⟩ : Fa), (⟨1, [11, 12]⟩ : Fa), (⟨1, [12, 13]⟩ : Fa)]
theorem wc14_ok : wc14.ok := ⟨ok_am _ _ (by decide), fun l hl => by
  simp only [wc14, List.mem_cons, List.not_mem_nil, or_false] at hl
  rcases hl with rfl | rfl <;> exact ok_am _ _ (by decide)⟩
theorem wc14_r : (rightC [wc14]).2 = 0 := by
  have h1 : mayC wc14 = true := by decide
  have h2 : heldC wc14 = true := by decide
  have h3 : (clauseL (fun _ => none) wc14).1 = true := by simp [clauseL, wc14, stepL, fitB, learn]
  unfold rightC
  rw [if_neg (by simp)]
  unfold rightF
  rw [if_pos (by unfold badC; rw [h1, h2, h3]; rfl)]
  rfl
theorem wl14_f : fixR [wc14] = true := decide_eq_true ⟨wc14_r, fun c hc x hx e => by
  rw [List.mem_singleton] at hc; subst hc
  simp only [wc14, List.mem_cons, List.not_mem_nil, or_false] at hx
  rcases hx with rfl | rfl <;> cases e⟩
theorem wc14_hd {F R N : Fa → Prop} {x : Fa} : Hd wc14 F R N false x ↔ ∃ a b c : Int, F ⟨1, [a, b]⟩ ∧ F ⟨1, [b, c]⟩ ∧ x = ⟨1, [a, c]⟩ := by
  unfold Hd
  constructor
  · rintro ⟨s, h1, _, _, h4⟩
    exact ⟨s 0, s 1, s 2, h1 _ (.head _) rfl, h1 _ (.tail _ (.head _)) rfl, h4⟩
  · rintro ⟨a, b, c, h1, h2, h3⟩
    refine ⟨fun k => if k = 0 then a else if k = 1 then b else c, fun l hl e => ?_, fun l hl e => ?_, fun e => (nomatch e), h3⟩
    · simp only [wc14, List.mem_cons, List.not_mem_nil, or_false] at hl
      rcases hl with rfl | rfl
      · exact h1
      · exact h2
    · simp only [wc14, List.mem_cons, List.not_mem_nil, or_false] at hl
      rcases hl with rfl | rfl <;> cases e
theorem mem_wall {N S : List Fa} {x : Fa} : x ∈ allH [wc14] N S ↔ ∃ a b c : Int, (⟨1, [a, b]⟩ : Fa) ∈ S ∧ (⟨1, [b, c]⟩ : Fa) ∈ S ∧ x = ⟨1, [a, c]⟩ := by
  rw [mem_allH]
  simp only [List.mem_singleton, exists_eq_left]
  rw [mem_headsC wc14_ok wc14_r, wc14_hd]
theorem wS_next {S T : List Fa} (hS : ∀ x ∈ S, x ∈ T) (h : ∀ a b c : Int, (⟨1, [a, b]⟩ : Fa) ∈ S → (⟨1, [b, c]⟩ : Fa) ∈ S → (⟨1, [a, c]⟩ : Fa) ∈ T) (g : ∀ x ∈ T, x ∈ S ∨ ∃ a b c : Int, (⟨1, [a, b]⟩ : Fa) ∈ S ∧ (⟨1, [b, c]⟩ : Fa) ∈ S ∧ x = ⟨1, [a, c]⟩) (N : List Fa) : nextS [wc14] N (fof S) = fof T := by
  refine rises_ext (rises_nextS (rises_fof _)) (rises_fof _) fun x => ?_
  rw [mem_nextS, mem_wall, mem_fof, mem_fof]
  simp only [mem_fof]
  constructor
  · rintro (q | ⟨a, b, c, h1, h2, rfl⟩)
    · exact hS x q
    · exact h a b c h1 h2
  · exact g x
theorem wS1 : Sq [wc14] (fof wn14) 1 = fof [(⟨1, [10, 11]⟩ : Fa), (⟨1, [11, 12]⟩ : Fa), (⟨1, [12, 13]⟩ : Fa), (⟨1, [10, 12]⟩ : Fa), (⟨1, [11, 13]⟩ : Fa)] := by
  refine wS_next (S := wn14) ?_ ?_ ?_ _
  · intro x hx; simp only [wn14, List.mem_cons, List.not_mem_nil, or_false] at hx ⊢; rcases hx with rfl | rfl | rfl <;> simp
  · intro a b c h1 h2
    simp only [wn14, List.mem_cons, List.not_mem_nil, or_false, Fa.mk.injEq, List.cons.injEq, and_true, true_and] at h1 h2 ⊢
    omega
  · intro x hx
    simp only [wn14, List.mem_cons, List.not_mem_nil, or_false] at hx ⊢
    rcases hx with rfl | rfl | rfl | rfl | rfl
    · exact .inl (by simp)
    · exact .inl (by simp)
    · exact .inl (by simp)
    · exact .inr ⟨10, 11, 12, by simp, by simp, rfl⟩
    · exact .inr ⟨11, 12, 13, by simp, by simp, rfl⟩
theorem wS2 : Sq [wc14] (fof wn14) 2 = fof [(⟨1, [10, 11]⟩ : Fa), (⟨1, [11, 12]⟩ : Fa), (⟨1, [12, 13]⟩ : Fa), (⟨1, [10, 12]⟩ : Fa), (⟨1, [11, 13]⟩ : Fa), (⟨1, [10, 13]⟩ : Fa)] := by
  show nextS _ _ (Sq [wc14] (fof wn14) 1) = _
  rw [wS1]
  refine wS_next ?_ ?_ ?_ _
  · intro x hx; simp only [List.mem_cons, List.not_mem_nil, or_false] at hx ⊢; rcases hx with rfl | rfl | rfl | rfl | rfl <;> simp
  · intro a b c h1 h2
    simp only [List.mem_cons, List.not_mem_nil, or_false, Fa.mk.injEq, List.cons.injEq, and_true, true_and] at h1 h2 ⊢
    omega
  · intro x hx
    simp only [List.mem_cons, List.not_mem_nil, or_false] at hx ⊢
    rcases hx with rfl | rfl | rfl | rfl | rfl | rfl
    · exact .inl (by simp)
    · exact .inl (by simp)
    · exact .inl (by simp)
    · exact .inl (by simp)
    · exact .inl (by simp)
    · exact .inr ⟨10, 11, 13, by simp, by simp, rfl⟩
theorem wS3 : nx [wc14] (fof wn14) (Sq [wc14] (fof wn14) 2) = [] := by
  rw [nx_nil, wS2]
  intro x hx
  obtain ⟨a, b, c, h1, h2, rfl⟩ := mem_wall.1 hx
  rw [mem_fof] at h1 h2 ⊢
  simp only [List.mem_cons, List.not_mem_nil, or_false, Fa.mk.injEq, List.cons.injEq, and_true, true_and] at h1 h2 ⊢
  omega
theorem wl2 : (Sq [wc14] (fof wn14) 2).length = 6 := by rw [wS2]; decide
theorem wl1 : (Sq [wc14] (fof wn14) 1).length = 5 := by rw [wS1]; decide
theorem wl0 : (Sq [wc14] (fof wn14) 0).length = 3 := by show (fof wn14).length = 3; decide
theorem w_k {k : Nat} (h : ∀ j < k, ¬ nx [wc14] (fof wn14) (Sq [wc14] (fof wn14) j) = []) (g : nx [wc14] (fof wn14) (Sq [wc14] (fof wn14) k) = []) : k = 2 := by
  have h1 : ¬ 2 < k := fun q => h 2 q wS3
  have e := Sq_one g wS3
  have e2 := congrArg List.length e
  rw [wl2] at e2
  have : k = 0 ∨ k = 1 ∨ k = 2 := by omega
  rcases this with rfl | rfl | rfl
  · rw [wl0] at e2; omega
  · rw [wl1] at e2; omega
  · rfl
theorem w_six {r : Option (List Fa)} {n : Nat} {e : Int} (h : LeastR [wc14] (fof wn14) 6 r n e) : ∃ S, r = some S ∧ S.length = 6 ∧ n = 3 ∧ e = 0 := by
  cases h with
  | arg h1 => exact absurd h1 (by rw [wl14_f]; simp)
  | many k h1 h2 h3 => have := Sq_top wS3 k; rw [wl2] at this; omega
  | ok k h1 h2 h3 h4 h5 => obtain rfl := w_k h4 h5; exact ⟨_, rfl, wl2, rfl, rfl⟩
theorem w_five {r : Option (List Fa)} {n : Nat} {e : Int} (h : LeastR [wc14] (fof wn14) 5 r n e) : r = none ∧ n = 0 ∧ e = 6 := by
  cases h with
  | arg h1 => exact absurd h1 (by rw [wl14_f]; simp)
  | many k h1 h2 h3 => exact ⟨rfl, rfl, rfl⟩
  | ok k h1 h2 h3 h4 h5 => obtain rfl := w_k h4 h5; rw [wl2] at h3; omega
theorem wn14_ok : ∀ x ∈ wn14, x.ok ∧ x.a.length ≤ 100000 := by
  intro x hx
  simp only [wn14, List.mem_cons, List.not_mem_nil, or_false] at hx
  rcases hx with rfl | rfl | rfl <;> exact ⟨ok_fa _ _ (by decide), by simp⟩
theorem w_big {most : Int} (hm : most ≤ 6) : ∀ c ∈ [wc14], ∀ (F R : List Fa) (new : Bool), (F.length : Int) ≤ most → (goL c F R (fof wn14) c.b ch0 new).length ≤ 50000000 := fun c hc F R new hF => by
  rw [List.mem_singleton] at hc; subst hc
  refine Nat.le_trans (goL_len _ _ _ _ _ _ _) ?_
  show F.length ^ 2 ≤ _
  have : F.length ≤ 6 := by omega
  exact Nat.le_trans (Nat.pow_le_pow_left this 2) (by decide)
abbrev few14P (l : List Cl) (a : List Fa) : Prop := l.length ≤ 20 ∧ a.length ≤ 30 ∧ few11 l a = true ∧ ∀ c ∈ l, smallC c 60 = true
def few14 (l : List Cl) (a : List Fa) : Bool := decide (few14P l a)
theorem few14_no {l : List Cl} {a : List Fa} (h : ¬ few14P l a) : few14 l a = false := decide_eq_false h
theorem few14_yes {l : List Cl} {a : List Fa} (h : few14P l a) : few14 l a = true := decide_eq_true h
theorem few14_of {l : List Cl} {a : List Fa} (h : few14 l a = true) : few14P l a := of_decide_eq_true h
theorem small60 {c : Cl} (h : smallC c 60 = true) {F R N : List Fa} {new : Bool} {n : Nat} (hF : F.length ≤ n) (hn : 1 ≤ n) : (goL c F R N c.b ch0 new).length ≤ n ^ 3 := by
  refine Nat.le_trans (goL_len _ _ _ _ _ _ _) ?_
  unfold smallC at h
  rw [decide_eq_true_eq] at h
  have hp : pos c.b ≤ 3 := by omega
  show F.length ^ pos c.b ≤ _
  exact Nat.le_trans (Nat.pow_le_pow_left hF _) (Nat.pow_le_pow_right hn hp)
theorem big14 {l : List Cl} {a : List Fa} (h : few14P l a) {most : Int} (hm : most ≤ 80) (N : List Fa) : ∀ c ∈ l, ∀ (F R : List Fa) (new : Bool), (F.length : Int) ≤ most → (goL c F R N c.b ch0 new).length ≤ 50000000 := fun c hc F R new hF =>
  Nat.le_trans (small60 (h.2.2.2 c hc) (n := 80) (by omega) (by omega)) (by decide)
theorem all14 {l : List Cl} {a : List Fa} (h : few14P l a) (ga : ∀ x ∈ a, x.ok) : ∀ x ∈ fof a, x.ok ∧ x.a.length ≤ 100000 := fun x hx => by
  have hx := mem_fof.1 hx
  exact ⟨ga x hx, Nat.le_trans ((few11_of h.2.2.1).2.2 x hx) (by omega)⟩

set_option maxHeartbeats 2000000 in
set_option maxRecDepth 20000 in
theorem law14Few (l : List Cl) (LA : Option Addr) (lc : Nat) (a : List Fa) (A : Option Addr) (k : Nat) :
    Spec Tryz.prog 14 #[.slice LA l.length lc, .slice A a.length k] [sl tCl LA lc l, sl tFa A k a] [] (fun v Ps' Os' => v = .bool (few14 l a) ∧ Ps' = [] ∧ Os' = []) := by
 refine spec_of (fn := Tryz.f14) (args := [.slice LA l.length lc, .slice A a.length k]) 32 Tryz.func14 rfl (by kernel_rfl) Tryz.ntmps14 (Nat.le_of_ble_eq_true rfl) (fun w0 hp0 hf0 => ?_)
 refine go_seq ?_
 refine go_region rfl ?_
 refine go_pure0 Tk rfl rfl rfl ?_
 refine go_nil ?_
 refine go_env [(0, _), (1, _)] ⟨rfl, rfl, trivial⟩ ?_
 iterate 2 refine go_seq ?_
 refine go_len (xs := l) (by repeat constructor) (fun l0 m0 => ?_)
 refine go_len (xs := a) (by repeat constructor) (fun l1 m1 => ?_)
 iterate 5 first | refine go_region rfl ?_ | refine go_pure0 Tk rfl rfl rfl ?_
 refine go_known 9 rfl ?_ ?_
 ·intro g1
  (try simp only [decide_eq_true_eq, decide_eq_false_iff_not, Bool.not_eq_true', Bool.not_eq_false', Bool.not_eq_eq_eq_not, Bool.not_true, Bool.not_false, Int.not_lt, Int.not_le, beq_iff_eq, beq_eq_false_iff_ne, ne_eq] at g1)
  iterate 10 first | refine go_skip0 rfl rfl ?_ | refine go_pure0 Tk rfl rfl rfl ?_
  refine go_nil ?_
  refine go_env [(0, _), (19, _)] ⟨rfl, rfl, trivial⟩ ?_
  refine go_cond_t rfl ?_
  refine go_seq ?_
  refine go_region rfl ?_
  refine go_pure0 Tk rfl rfl rfl ?_
  refine go_nil ?_
  refine go_env [(4, _)] ⟨rfl, trivial⟩ ?_
  refine go_ret ⟨rfl, rfl⟩ _ _ (res1 (by rfl) (.tmp rfl)) ⟨by first | rw [few14_no (l := l) (a := a) (fun h => by have h1 := h.1; have h2 := h.2.1; have h3 := h.2.2.1; first | omega | exact absurd (g3.symm.trans h3) (by decide) | exact absurd (g4.symm.trans (h.2.2.2 l[j] (List.getElem_mem _))) (by decide))] | rw [few14_yes (l := l) (a := a) ⟨by omega, by omega, g3, by rw [List.take_of_length_le (by omega)] at hz; exact hz⟩], rfl, rfl⟩ (by repeat constructor) (by repeat constructor)
 ·intro g1
  (try simp only [decide_eq_true_eq, decide_eq_false_iff_not, Bool.not_eq_true', Bool.not_eq_false', Bool.not_eq_eq_eq_not, Bool.not_true, Bool.not_false, Int.not_lt, Int.not_le, beq_iff_eq, beq_eq_false_iff_ne, ne_eq] at g1)
  iterate 5 refine go_pure0 Tk rfl rfl rfl ?_
  refine go_known 14 rfl ?_ ?_
  ·intro g2
   (try simp only [decide_eq_true_eq, decide_eq_false_iff_not, Bool.not_eq_true', Bool.not_eq_false', Bool.not_eq_eq_eq_not, Bool.not_true, Bool.not_false, Int.not_lt, Int.not_le, beq_iff_eq, beq_eq_false_iff_ne, ne_eq] at g2)
   iterate 5 first | refine go_skip0 rfl rfl ?_ | refine go_pure0 Tk rfl rfl rfl ?_
   refine go_nil ?_
   refine go_env [(0, _), (19, _)] ⟨rfl, rfl, trivial⟩ ?_
   refine go_cond_t rfl ?_
   refine go_seq ?_
   refine go_region rfl ?_
   refine go_pure0 Tk rfl rfl rfl ?_
   refine go_nil ?_
   refine go_env [(4, _)] ⟨rfl, trivial⟩ ?_
   refine go_ret ⟨rfl, rfl⟩ _ _ (res1 (by rfl) (.tmp rfl)) ⟨by first | rw [few14_no (l := l) (a := a) (fun h => by have h1 := h.1; have h2 := h.2.1; have h3 := h.2.2.1; first | omega | exact absurd (g3.symm.trans h3) (by decide) | exact absurd (g4.symm.trans (h.2.2.2 l[j] (List.getElem_mem _))) (by decide))] | rw [few14_yes (l := l) (a := a) ⟨by omega, by omega, g3, by rw [List.take_of_length_le (by omega)] at hz; exact hz⟩], rfl, rfl⟩ (by repeat constructor) (by repeat constructor)
  ·intro g2
   (try simp only [decide_eq_true_eq, decide_eq_false_iff_not, Bool.not_eq_true', Bool.not_eq_false', Bool.not_eq_eq_eq_not, Bool.not_true, Bool.not_false, Int.not_lt, Int.not_le, beq_iff_eq, beq_eq_false_iff_ne, ne_eq] at g2)
   iterate 2 refine go_pure0 Tk rfl rfl rfl ?_
   refine go_call (law11Few LA lc l A k a) rfl rfl (by rfl) rfl (by repeat constructor) (by repeat constructor) (fun h => nomatch h) ?_
   rintro _ _ _ ⟨rfl, rfl, rfl⟩
   iterate 2 refine go_pure0 Tk rfl rfl rfl ?_
   refine go_nil ?_
   refine go_env [(0, _), (19, _)] ⟨rfl, rfl, trivial⟩ ?_
   refine go_cond rfl ?_ ?_
   ·intro g3
    (try simp only [decide_eq_true_eq, decide_eq_false_iff_not, Bool.not_eq_true', Bool.not_eq_false', Bool.not_eq_eq_eq_not, Bool.not_true, Bool.not_false, Int.not_lt, Int.not_le, beq_iff_eq, beq_eq_false_iff_ne, ne_eq] at g3)
    refine go_seq ?_
    refine go_region rfl ?_
    refine go_pure0 Tk rfl rfl rfl ?_
    refine go_nil ?_
    refine go_env [(4, _)] ⟨rfl, trivial⟩ ?_
    refine go_ret ⟨rfl, rfl⟩ _ _ (res1 (by rfl) (.tmp rfl)) ⟨by first | rw [few14_no (l := l) (a := a) (fun h => by have h1 := h.1; have h2 := h.2.1; have h3 := h.2.2.1; first | omega | exact absurd (g3.symm.trans h3) (by decide) | exact absurd (g4.symm.trans (h.2.2.2 l[j] (List.getElem_mem _))) (by decide))] | rw [few14_yes (l := l) (a := a) ⟨by omega, by omega, g3, by rw [List.take_of_length_le (by omega)] at hz; exact hz⟩], rfl, rfl⟩ (by repeat constructor) (by repeat constructor)
   ·intro g3
    (try simp only [decide_eq_true_eq, decide_eq_false_iff_not, Bool.not_eq_true', Bool.not_eq_false', Bool.not_eq_eq_eq_not, Bool.not_true, Bool.not_false, Int.not_lt, Int.not_le, beq_iff_eq, beq_eq_false_iff_ne, ne_eq] at g3)
    iterate 5 first | refine go_skip ?_ | refine go_seq ?_ | refine go_region rfl ?_ | refine go_pure0 Tk rfl rfl rfl ?_
    refine go_nil ?_
    refine go_env [(0, _), (5, _)] ⟨rfl, rfl, trivial⟩ ?_
    refine go_block ?_
    refine go_loop' (X := Nat) (fun j => [(5, .int .i64 (j : Int))]) [(0, _)] (fun _ => []) (fun j => j ≤ l.length ∧ ∀ c ∈ l.take j, smallC c 60 = true) (fun j => l.length - j) (0) ⟨rfl, rfl, trivial⟩ (by repeat constructor) ⟨by omega, by simp⟩ ?_
    intro j ⟨hj, hz⟩
    iterate 7 first | refine go_seq ?_ | refine go_region rfl ?_ | refine go_pure0 Tk rfl rfl rfl ?_
    refine go_nil ?_
    refine go_env [(0, _), (5, _), (23, _)] ⟨rfl, rfl, rfl, trivial⟩ ?_
    refine go_condD rfl ?_ ?_
    ·intro hq1
     iterate 4 first | refine go_skip ?_ | refine go_seq ?_ | refine go_block ?_
     refine go_elem_cl (xs := l) (by repeat constructor) (j) (List.getElem?_eq_getElem (by omega)) (fun b1 o1 A1 c1 B1 d1 hA => ?_); cases hA
     iterate 3 first | refine go_region rfl ?_ | refine go_pure0 Tk rfl rfl rfl ?_
     refine go_val0 rfl (idx_val Tk rfl rfl rfl rfl rfl (by omega)) rfl ?_
     refine go_val0 rfl (ldv Tk rfl rfl rfl) rfl ?_
     refine go_call (law13Small l[j] A1 c1 B1 d1 60) rfl rfl (by rfl) rfl (by repeat constructor) (by repeat constructor) (fun h => nomatch h) ?_
     rintro _ _ _ ⟨rfl, rfl, rfl⟩
     refine go_pure0 Tk rfl rfl rfl ?_
     refine go_nil ?_
     refine go_env [(0, _), (5, _), (31, _)] ⟨rfl, rfl, rfl, trivial⟩ ?_
     refine go_cond rfl ?_ ?_
     ·intro g4
      (try simp only [decide_eq_true_eq, decide_eq_false_iff_not, Bool.not_eq_true', Bool.not_eq_false', Bool.not_eq_eq_eq_not, Bool.not_true, Bool.not_false, Int.not_lt, Int.not_le, beq_iff_eq, beq_eq_false_iff_ne, ne_eq] at g4)
      refine go_seq ?_
      refine go_region rfl ?_
      refine go_pure0 Tk rfl rfl rfl ?_
      refine go_nil ?_
      refine go_env [(4, _)] ⟨rfl, trivial⟩ ?_
      refine go_ret ⟨rfl, rfl⟩ _ _ (res1 (by rfl) (.tmp rfl)) ⟨by first | rw [few14_no (l := l) (a := a) (fun h => by have h1 := h.1; have h2 := h.2.1; have h3 := h.2.2.1; first | omega | exact absurd (g3.symm.trans h3) (by decide) | exact absurd (g4.symm.trans (h.2.2.2 l[j] (List.getElem_mem _))) (by decide))] | rw [few14_yes (l := l) (a := a) ⟨by omega, by omega, g3, by rw [List.take_of_length_le (by omega)] at hz; exact hz⟩], rfl, rfl⟩ (by repeat constructor) (by repeat constructor)
     ·intro g4
      (try simp only [decide_eq_true_eq, decide_eq_false_iff_not, Bool.not_eq_true', Bool.not_eq_false', Bool.not_eq_eq_eq_not, Bool.not_true, Bool.not_false, Int.not_lt, Int.not_le, beq_iff_eq, beq_eq_false_iff_ne, ne_eq] at g4)
      refine go_skip ?_
      refine go_blk ?_
      iterate 4 first | refine go_region rfl ?_ | refine go_pure0 Tk rfl rfl rfl ?_
      refine go_nil ?_
      refine go_i64 5 rfl (by omega) (by omega) ?_
      refine go_back (j + 1) ⟨rfl, rfl, trivial⟩ (by repeat constructor) (by repeat constructor) (⟨by omega, mem_take_next (by omega) hz g4⟩) (by omega)
    ·intro hq1
     refine go_exit rfl ?_
     refine go_seq ?_
     refine go_region rfl ?_
     refine go_pure0 Tk rfl rfl rfl ?_
     refine go_nil ?_
     refine go_env [(4, _)] ⟨rfl, trivial⟩ ?_
     refine go_ret ⟨rfl, rfl⟩ _ _ (res1 (by rfl) (.tmp rfl)) ⟨by first | rw [few14_no (l := l) (a := a) (fun h => by have h1 := h.1; have h2 := h.2.1; have h3 := h.2.2.1; first | omega | exact absurd (g3.symm.trans h3) (by decide) | exact absurd (g4.symm.trans (h.2.2.2 l[j] (List.getElem_mem _))) (by decide))] | rw [few14_yes (l := l) (a := a) ⟨by omega, by omega, g3, by rw [List.take_of_length_le (by omega)] at hz; exact hz⟩], rfl, rfl⟩ (by repeat constructor) (by repeat constructor)

set_option maxHeartbeats 2000000 in
set_option maxRecDepth 20000 in
theorem law14chain  :
    Spec Tryz.prog 36 #[] [] [] (fun v Ps' Os' => ∃ A B, v = .tuple #[.slice A 1 1, .slice B 3 3] ∧ Ps' = [sl tCl A 1 [wc14], sl tFa B 3 wn14] ∧ Os' = []) := by
 refine spec_of (fn := Tryz.f36) (args := []) 26 Tryz.func36 rfl (by kernel_rfl) Tryz.ntmps36 (Nat.le_of_ble_eq_true rfl) (fun w0 hp0 hf0 => ?_)
 iterate 4 first | refine go_seq ?_ | refine go_region rfl ?_ | refine go_pure0 Tk rfl rfl rfl ?_
 refine go_nil ?_
 refine go_env [] trivial ?_
 refine go_seq ?_
 refine go_region rfl ?_
 refine go_call (law11V 0) rfl rfl (by rfl) rfl (by repeat constructor) (by repeat constructor) (fun h => nomatch h) ?_
 rintro _ _ _ ⟨rfl, rfl, rfl⟩
 refine go_call (law11V 2) rfl rfl (by rfl) rfl (by repeat constructor) (by repeat constructor) (fun h => nomatch h) ?_
 rintro _ _ _ ⟨rfl, rfl, rfl⟩
 refine go_bslice Tk rfl rfl rfl rfl rfl rfl rfl rfl (fun h => nomatch h) ?_
 intro u1
 refine go_lit tTm (b := u1) [⟨true, 0⟩, ⟨true, 2⟩] (by repeat constructor) (fun hp a => ⟨[_, _], _, rfl, tTm_mk (x := ⟨true, 0⟩), ⟨[_, _], [], rfl, tTm_mk (x := ⟨true, 2⟩), rfl⟩⟩) (by simp) ?_
 refine go_call (law11A _ _ _ _) rfl rfl (by rfl) rfl (by repeat constructor) (by repeat constructor) (fun h => nomatch h) ?_
 rintro _ _ _ ⟨rfl, rfl, rfl⟩
 refine go_call (law11V 0) rfl rfl (by rfl) rfl (by repeat constructor) (by repeat constructor) (fun h => nomatch h) ?_
 rintro _ _ _ ⟨rfl, rfl, rfl⟩
 refine go_call (law11V 1) rfl rfl (by rfl) rfl (by repeat constructor) (by repeat constructor) (fun h => nomatch h) ?_
 rintro _ _ _ ⟨rfl, rfl, rfl⟩
 refine go_bslice Tk rfl rfl rfl rfl rfl rfl rfl rfl (fun h => nomatch h) ?_
 intro u2
 refine go_lit tTm (b := u2) [⟨true, 0⟩, ⟨true, 1⟩] (by repeat constructor) (fun hp a => ⟨[_, _], _, rfl, tTm_mk (x := ⟨true, 0⟩), ⟨[_, _], [], rfl, tTm_mk (x := ⟨true, 1⟩), rfl⟩⟩) (by simp) ?_
 refine go_call (law11Yes _ _ _ _) rfl rfl (by rfl) rfl (by repeat constructor) (by repeat constructor) (fun h => nomatch h) ?_
 rintro _ _ _ ⟨rfl, rfl, rfl⟩
 refine go_call (law11V 1) rfl rfl (by rfl) rfl (by repeat constructor) (by repeat constructor) (fun h => nomatch h) ?_
 rintro _ _ _ ⟨rfl, rfl, rfl⟩
 refine go_call (law11V 2) rfl rfl (by rfl) rfl (by repeat constructor) (by repeat constructor) (fun h => nomatch h) ?_
 rintro _ _ _ ⟨rfl, rfl, rfl⟩
 refine go_bslice Tk rfl rfl rfl rfl rfl rfl rfl rfl (fun h => nomatch h) ?_
 intro u3
 refine go_lit tTm (b := u3) [⟨true, 1⟩, ⟨true, 2⟩] (by repeat constructor) (fun hp a => ⟨[_, _], _, rfl, tTm_mk (x := ⟨true, 1⟩), ⟨[_, _], [], rfl, tTm_mk (x := ⟨true, 2⟩), rfl⟩⟩) (by simp) ?_
 refine go_call (law11Yes _ _ _ _) rfl rfl (by rfl) rfl (by repeat constructor) (by repeat constructor) (fun h => nomatch h) ?_
 rintro _ _ _ ⟨rfl, rfl, rfl⟩
 refine go_bslice Tk rfl rfl rfl rfl rfl rfl rfl rfl (fun h => nomatch h) ?_
 intro u5
 refine go_lit tLi (b := u5) wc14.b (by repeat constructor) (fun hp a => ⟨[_, _, _], _, rfl, tLi_mk (x := ⟨false, ⟨1, [⟨true, 0⟩, ⟨true, 1⟩]⟩⟩) (a (sl tTm (some ⟨u2, 0, none⟩) 2 [⟨true, 0⟩, ⟨true, 1⟩]) (by repeat constructor)), [_, _, _], [], rfl, tLi_mk (x := ⟨false, ⟨1, [⟨true, 1⟩, ⟨true, 2⟩]⟩⟩) (a (sl tTm (some ⟨u3, 0, none⟩) 2 [⟨true, 1⟩, ⟨true, 2⟩]) (by repeat constructor)), rfl⟩) (by decide) ?_
 refine go_call (law11If _ _ _ _ _ _ _) rfl rfl (by rfl) rfl (by repeat constructor) (by repeat constructor) (fun h => nomatch h) ?_
 rintro _ _ _ ⟨rfl, rfl, rfl⟩
 refine go_alloc Tk rfl rfl rfl (by rfl) rfl rfl (fun h => nomatch h) ?_
 intro bC
 refine go_store Tk rfl rfl rfl rfl rfl rfl (by repeat constructor) rfl rfl (by rfl) (fun h => nomatch h) ?_
 refine go_nil ?_
 refine go_freeze_pt (b := bC) (by repeat constructor) ?_
 refine go_env [(2, _)] ⟨rfl, trivial⟩ ?_
 refine go_seq ?_
 refine go_draw ([cl bC 0 [.int .u32 wc14.h.p, .slice (some ⟨u1, 0, none⟩) wc14.h.a.length 2, .slice (some ⟨u5, 0, none⟩) wc14.b.length 2]]) ([]) [0] (SL.pre [(2, 0)] (.two (SL.pre [(0, 1)] (.two (SL.pre [(0, 2)] (.two (SL.pre [(0, 3)] (.two (SL.pre [(0, 4)] (.two (SL.pre [(0, 5), (0, 6), (0, 7), (1, 9), (0, 8), (1, 10)] .nil) (SL.pre [(0, 6), (0, 5), (0, 7), (1, 9), (0, 8), (1, 10)] .nil))) (SL.pre [(0, 6), (0, 4), (0, 5), (0, 7), (1, 9), (0, 8), (1, 10)] .nil))) (.two (SL.pre [(0, 4)] (.two (SL.pre [(0, 3)] (.two (SL.pre [(0, 5), (0, 6), (0, 7), (1, 9), (0, 8), (1, 10)] .nil) (SL.pre [(0, 6), (0, 5), (0, 7), (1, 9), (0, 8), (1, 10)] .nil))) (SL.pre [(0, 6), (0, 3), (0, 5), (0, 7), (1, 9), (0, 8), (1, 10)] .nil))) (SL.pre [(0, 6)] (.two (SL.pre [(0, 3), (0, 4), (0, 5), (0, 7), (1, 9), (0, 8), (1, 10)] .nil) (SL.pre [(0, 4), (0, 3), (0, 5), (0, 7), (1, 9), (0, 8), (1, 10)] .nil)))))) (.two (SL.pre [(0, 4)] (.two (SL.pre [(0, 2)] (.two (SL.pre [(0, 3)] (.two (SL.pre [(0, 5), (0, 6), (0, 7), (1, 9), (0, 8), (1, 10)] .nil) (SL.pre [(0, 6), (0, 5), (0, 7), (1, 9), (0, 8), (1, 10)] .nil))) (SL.pre [(0, 6), (0, 3), (0, 5), (0, 7), (1, 9), (0, 8), (1, 10)] .nil))) (SL.pre [(0, 6), (0, 2), (0, 3), (0, 5), (0, 7), (1, 9), (0, 8), (1, 10)] .nil))) (SL.pre [(0, 6)] (.two (SL.pre [(0, 2)] (.two (SL.pre [(0, 3), (0, 4), (0, 5), (0, 7), (1, 9), (0, 8), (1, 10)] .nil) (SL.pre [(0, 4), (0, 3), (0, 5), (0, 7), (1, 9), (0, 8), (1, 10)] .nil))) (SL.pre [(0, 4), (0, 2), (0, 3), (0, 5), (0, 7), (1, 9), (0, 8), (1, 10)] .nil)))))) (.two (SL.pre [(0, 2)] (.two (SL.pre [(0, 1)] (.two (SL.pre [(0, 3)] (.two (SL.pre [(0, 4)] (.two (SL.pre [(0, 5), (0, 6), (0, 7), (1, 9), (0, 8), (1, 10)] .nil) (SL.pre [(0, 6), (0, 5), (0, 7), (1, 9), (0, 8), (1, 10)] .nil))) (SL.pre [(0, 6), (0, 4), (0, 5), (0, 7), (1, 9), (0, 8), (1, 10)] .nil))) (.two (SL.pre [(0, 4)] (.two (SL.pre [(0, 3)] (.two (SL.pre [(0, 5), (0, 6), (0, 7), (1, 9), (0, 8), (1, 10)] .nil) (SL.pre [(0, 6), (0, 5), (0, 7), (1, 9), (0, 8), (1, 10)] .nil))) (SL.pre [(0, 6), (0, 3), (0, 5), (0, 7), (1, 9), (0, 8), (1, 10)] .nil))) (SL.pre [(0, 6)] (.two (SL.pre [(0, 3), (0, 4), (0, 5), (0, 7), (1, 9), (0, 8), (1, 10)] .nil) (SL.pre [(0, 4), (0, 3), (0, 5), (0, 7), (1, 9), (0, 8), (1, 10)] .nil)))))) (.two (SL.pre [(0, 3)] (.two (SL.pre [(0, 1)] (.two (SL.pre [(0, 4)] (.two (SL.pre [(0, 5), (0, 6), (0, 7), (1, 9), (0, 8), (1, 10)] .nil) (SL.pre [(0, 6), (0, 5), (0, 7), (1, 9), (0, 8), (1, 10)] .nil))) (SL.pre [(0, 6), (0, 4), (0, 5), (0, 7), (1, 9), (0, 8), (1, 10)] .nil))) (.two (SL.pre [(0, 4)] (.two (SL.pre [(0, 1)] (.two (SL.pre [(0, 5), (0, 6), (0, 7), (1, 9), (0, 8), (1, 10)] .nil) (SL.pre [(0, 6), (0, 5), (0, 7), (1, 9), (0, 8), (1, 10)] .nil))) (.two (SL.pre [(0, 5)] (.two (SL.pre [(0, 1), (0, 6), (0, 7), (1, 9), (0, 8), (1, 10)] .nil) (SL.pre [(0, 6)] (.two (SL.pre [(0, 1), (0, 7), (1, 9), (0, 8), (1, 10)] .nil) (SL.pre [(0, 7)] (.two (SL.pre [(0, 1), (1, 9), (0, 8), (1, 10)] .nil) (SL.pre [(0, 8), (0, 1), (1, 9), (1, 10)] .nil))))))) (SL.pre [(0, 6)] (.two (SL.pre [(0, 1), (0, 5), (0, 7), (1, 9), (0, 8), (1, 10)] .nil) (SL.pre [(0, 5)] (.two (SL.pre [(0, 1), (0, 7), (1, 9), (0, 8), (1, 10)] .nil) (SL.pre [(0, 7)] (.two (SL.pre [(0, 1), (1, 9), (0, 8), (1, 10)] .nil) (SL.pre [(0, 8), (0, 1), (1, 9), (1, 10)] .nil)))))))))) (SL.pre [(0, 6)] (.two (SL.pre [(0, 1), (0, 4), (0, 5), (0, 7), (1, 9), (0, 8), (1, 10)] .nil) (SL.pre [(0, 4)] (.two (SL.pre [(0, 1), (0, 5), (0, 7), (1, 9), (0, 8), (1, 10)] .nil) (SL.pre [(0, 5)] (.two (SL.pre [(0, 1), (0, 7), (1, 9), (0, 8), (1, 10)] .nil) (SL.pre [(0, 7)] (.two (SL.pre [(0, 1), (1, 9), (0, 8), (1, 10)] .nil) (SL.pre [(0, 8), (0, 1), (1, 9), (1, 10)] .nil)))))))))))) (.two (SL.pre [(0, 4)] (.two (SL.pre [(0, 1)] (.two (SL.pre [(0, 3)] (.two (SL.pre [(0, 5), (0, 6), (0, 7), (1, 9), (0, 8), (1, 10)] .nil) (SL.pre [(0, 6), (0, 5), (0, 7), (1, 9), (0, 8), (1, 10)] .nil))) (SL.pre [(0, 6), (0, 3), (0, 5), (0, 7), (1, 9), (0, 8), (1, 10)] .nil))) (.two (SL.pre [(0, 3)] (.two (SL.pre [(0, 1)] (.two (SL.pre [(0, 5), (0, 6), (0, 7), (1, 9), (0, 8), (1, 10)] .nil) (SL.pre [(0, 6), (0, 5), (0, 7), (1, 9), (0, 8), (1, 10)] .nil))) (.two (SL.pre [(0, 5)] (.two (SL.pre [(0, 1), (0, 6), (0, 7), (1, 9), (0, 8), (1, 10)] .nil) (SL.pre [(0, 6)] (.two (SL.pre [(0, 1), (0, 7), (1, 9), (0, 8), (1, 10)] .nil) (SL.pre [(0, 7)] (.two (SL.pre [(0, 1), (1, 9), (0, 8), (1, 10)] .nil) (SL.pre [(0, 8), (0, 1), (1, 9), (1, 10)] .nil))))))) (SL.pre [(0, 6)] (.two (SL.pre [(0, 1), (0, 5), (0, 7), (1, 9), (0, 8), (1, 10)] .nil) (SL.pre [(0, 5)] (.two (SL.pre [(0, 1), (0, 7), (1, 9), (0, 8), (1, 10)] .nil) (SL.pre [(0, 7)] (.two (SL.pre [(0, 1), (1, 9), (0, 8), (1, 10)] .nil) (SL.pre [(0, 8), (0, 1), (1, 9), (1, 10)] .nil)))))))))) (SL.pre [(0, 6)] (.two (SL.pre [(0, 1), (0, 3), (0, 5), (0, 7), (1, 9), (0, 8), (1, 10)] .nil) (SL.pre [(0, 3)] (.two (SL.pre [(0, 1), (0, 5), (0, 7), (1, 9), (0, 8), (1, 10)] .nil) (SL.pre [(0, 5)] (.two (SL.pre [(0, 1), (0, 7), (1, 9), (0, 8), (1, 10)] .nil) (SL.pre [(0, 7)] (.two (SL.pre [(0, 1), (1, 9), (0, 8), (1, 10)] .nil) (SL.pre [(0, 8), (0, 1), (1, 9), (1, 10)] .nil)))))))))))) (SL.pre [(0, 6)] (.two (SL.pre [(0, 1)] (.two (SL.pre [(0, 3), (0, 4), (0, 5), (0, 7), (1, 9), (0, 8), (1, 10)] .nil) (SL.pre [(0, 4), (0, 3), (0, 5), (0, 7), (1, 9), (0, 8), (1, 10)] .nil))) (.two (SL.pre [(0, 3)] (.two (SL.pre [(0, 1), (0, 4), (0, 5), (0, 7), (1, 9), (0, 8), (1, 10)] .nil) (SL.pre [(0, 4)] (.two (SL.pre [(0, 1), (0, 5), (0, 7), (1, 9), (0, 8), (1, 10)] .nil) (SL.pre [(0, 5)] (.two (SL.pre [(0, 1), (0, 7), (1, 9), (0, 8), (1, 10)] .nil) (SL.pre [(0, 7)] (.two (SL.pre [(0, 1), (1, 9), (0, 8), (1, 10)] .nil) (SL.pre [(0, 8), (0, 1), (1, 9), (1, 10)] .nil))))))))) (SL.pre [(0, 4)] (.two (SL.pre [(0, 1), (0, 3), (0, 5), (0, 7), (1, 9), (0, 8), (1, 10)] .nil) (SL.pre [(0, 3)] (.two (SL.pre [(0, 1), (0, 5), (0, 7), (1, 9), (0, 8), (1, 10)] .nil) (SL.pre [(0, 5)] (.two (SL.pre [(0, 1), (0, 7), (1, 9), (0, 8), (1, 10)] .nil) (SL.pre [(0, 7)] (.two (SL.pre [(0, 1), (1, 9), (0, 8), (1, 10)] .nil) (SL.pre [(0, 8), (0, 1), (1, 9), (1, 10)] .nil)))))))))))))))) (.two (SL.pre [(0, 4)] (.two (SL.pre [(0, 1)] (.two (SL.pre [(0, 2)] (.two (SL.pre [(0, 3)] (.two (SL.pre [(0, 5), (0, 6), (0, 7), (1, 9), (0, 8), (1, 10)] .nil) (SL.pre [(0, 6), (0, 5), (0, 7), (1, 9), (0, 8), (1, 10)] .nil))) (SL.pre [(0, 6), (0, 3), (0, 5), (0, 7), (1, 9), (0, 8), (1, 10)] .nil))) (SL.pre [(0, 6), (0, 2), (0, 3), (0, 5), (0, 7), (1, 9), (0, 8), (1, 10)] .nil))) (.two (SL.pre [(0, 2)] (.two (SL.pre [(0, 1)] (.two (SL.pre [(0, 3)] (.two (SL.pre [(0, 5), (0, 6), (0, 7), (1, 9), (0, 8), (1, 10)] .nil) (SL.pre [(0, 6), (0, 5), (0, 7), (1, 9), (0, 8), (1, 10)] .nil))) (SL.pre [(0, 6), (0, 3), (0, 5), (0, 7), (1, 9), (0, 8), (1, 10)] .nil))) (.two (SL.pre [(0, 3)] (.two (SL.pre [(0, 1)] (.two (SL.pre [(0, 5), (0, 6), (0, 7), (1, 9), (0, 8), (1, 10)] .nil) (SL.pre [(0, 6), (0, 5), (0, 7), (1, 9), (0, 8), (1, 10)] .nil))) (.two (SL.pre [(0, 5)] (.two (SL.pre [(0, 1), (0, 6), (0, 7), (1, 9), (0, 8), (1, 10)] .nil) (SL.pre [(0, 6)] (.two (SL.pre [(0, 1), (0, 7), (1, 9), (0, 8), (1, 10)] .nil) (SL.pre [(0, 7)] (.two (SL.pre [(0, 1), (1, 9), (0, 8), (1, 10)] .nil) (SL.pre [(0, 8), (0, 1), (1, 9), (1, 10)] .nil))))))) (SL.pre [(0, 6)] (.two (SL.pre [(0, 1), (0, 5), (0, 7), (1, 9), (0, 8), (1, 10)] .nil) (SL.pre [(0, 5)] (.two (SL.pre [(0, 1), (0, 7), (1, 9), (0, 8), (1, 10)] .nil) (SL.pre [(0, 7)] (.two (SL.pre [(0, 1), (1, 9), (0, 8), (1, 10)] .nil) (SL.pre [(0, 8), (0, 1), (1, 9), (1, 10)] .nil)))))))))) (SL.pre [(0, 6)] (.two (SL.pre [(0, 1), (0, 3), (0, 5), (0, 7), (1, 9), (0, 8), (1, 10)] .nil) (SL.pre [(0, 3)] (.two (SL.pre [(0, 1), (0, 5), (0, 7), (1, 9), (0, 8), (1, 10)] .nil) (SL.pre [(0, 5)] (.two (SL.pre [(0, 1), (0, 7), (1, 9), (0, 8), (1, 10)] .nil) (SL.pre [(0, 7)] (.two (SL.pre [(0, 1), (1, 9), (0, 8), (1, 10)] .nil) (SL.pre [(0, 8), (0, 1), (1, 9), (1, 10)] .nil)))))))))))) (SL.pre [(0, 6)] (.two (SL.pre [(0, 1), (0, 2), (0, 3), (0, 5), (0, 7), (1, 9), (0, 8), (1, 10)] .nil) (SL.pre [(0, 2)] (.two (SL.pre [(0, 1), (0, 3), (0, 5), (0, 7), (1, 9), (0, 8), (1, 10)] .nil) (SL.pre [(0, 3)] (.two (SL.pre [(0, 1), (0, 5), (0, 7), (1, 9), (0, 8), (1, 10)] .nil) (SL.pre [(0, 5)] (.two (SL.pre [(0, 1), (0, 7), (1, 9), (0, 8), (1, 10)] .nil) (SL.pre [(0, 7)] (.two (SL.pre [(0, 1), (1, 9), (0, 8), (1, 10)] .nil) (SL.pre [(0, 8), (0, 1), (1, 9), (1, 10)] .nil)))))))))))))) (SL.pre [(0, 6)] (.two (SL.pre [(0, 1)] (.two (SL.pre [(0, 2)] (.two (SL.pre [(0, 3), (0, 4), (0, 5), (0, 7), (1, 9), (0, 8), (1, 10)] .nil) (SL.pre [(0, 4), (0, 3), (0, 5), (0, 7), (1, 9), (0, 8), (1, 10)] .nil))) (SL.pre [(0, 4), (0, 2), (0, 3), (0, 5), (0, 7), (1, 9), (0, 8), (1, 10)] .nil))) (.two (SL.pre [(0, 2)] (.two (SL.pre [(0, 1)] (.two (SL.pre [(0, 3), (0, 4), (0, 5), (0, 7), (1, 9), (0, 8), (1, 10)] .nil) (SL.pre [(0, 4), (0, 3), (0, 5), (0, 7), (1, 9), (0, 8), (1, 10)] .nil))) (.two (SL.pre [(0, 3)] (.two (SL.pre [(0, 1), (0, 4), (0, 5), (0, 7), (1, 9), (0, 8), (1, 10)] .nil) (SL.pre [(0, 4)] (.two (SL.pre [(0, 1), (0, 5), (0, 7), (1, 9), (0, 8), (1, 10)] .nil) (SL.pre [(0, 5)] (.two (SL.pre [(0, 1), (0, 7), (1, 9), (0, 8), (1, 10)] .nil) (SL.pre [(0, 7)] (.two (SL.pre [(0, 1), (1, 9), (0, 8), (1, 10)] .nil) (SL.pre [(0, 8), (0, 1), (1, 9), (1, 10)] .nil))))))))) (SL.pre [(0, 4)] (.two (SL.pre [(0, 1), (0, 3), (0, 5), (0, 7), (1, 9), (0, 8), (1, 10)] .nil) (SL.pre [(0, 3)] (.two (SL.pre [(0, 1), (0, 5), (0, 7), (1, 9), (0, 8), (1, 10)] .nil) (SL.pre [(0, 5)] (.two (SL.pre [(0, 1), (0, 7), (1, 9), (0, 8), (1, 10)] .nil) (SL.pre [(0, 7)] (.two (SL.pre [(0, 1), (1, 9), (0, 8), (1, 10)] .nil) (SL.pre [(0, 8), (0, 1), (1, 9), (1, 10)] .nil)))))))))))) (SL.pre [(0, 4)] (.two (SL.pre [(0, 1), (0, 2), (0, 3), (0, 5), (0, 7), (1, 9), (0, 8), (1, 10)] .nil) (SL.pre [(0, 2)] (.two (SL.pre [(0, 1), (0, 3), (0, 5), (0, 7), (1, 9), (0, 8), (1, 10)] .nil) (SL.pre [(0, 3)] (.two (SL.pre [(0, 1), (0, 5), (0, 7), (1, 9), (0, 8), (1, 10)] .nil) (SL.pre [(0, 5)] (.two (SL.pre [(0, 1), (0, 7), (1, 9), (0, 8), (1, 10)] .nil) (SL.pre [(0, 7)] (.two (SL.pre [(0, 1), (1, 9), (0, 8), (1, 10)] .nil) (SL.pre [(0, 8), (0, 1), (1, 9), (1, 10)] .nil)))))))))))))))))) mixed rfl (by kernel_rfl) ?_
 refine go_val2a rfl (ldv Tk rfl rfl rfl) rfl ?_
 refine go_two ?_ ?_
 ·skip
  refine go_bslice Tk rfl rfl rfl rfl rfl rfl rfl rfl (fun h => nomatch h) ?_
  intro bs
  refine go_lit tCl (b := bs) [wc14] (by repeat constructor) (fun hp a => ⟨[.int .u32 wc14.h.p, .slice (some ⟨u1, 0, none⟩) wc14.h.a.length 2, .slice (some ⟨u5, 0, none⟩) wc14.b.length 2], [], rfl, tCl_mk (a (sl tTm (some ⟨u1, 0, none⟩) 2 wc14.h.a) (by repeat constructor)) (a (sl tLi (some ⟨u5, 0, none⟩) 2 wc14.b) (by repeat constructor)), rfl⟩) (by simp) ?_
  refine go_two ?_ ?_
  ·skip
   refine go_bslice Tk rfl rfl rfl rfl rfl rfl rfl rfl (fun _ _ => satA) ?_
   intro b1
   refine go_lit_int (kk := .u32) [10, 11] (by repeat constructor) (by simp) ?_
   refine go_two ?_ ?_
   ·skip
    refine go_call (law13F 1 _ 2 2) rfl rfl (by rfl) rfl (by repeat constructor) (by repeat constructor) (fun _ v Ps' Os' hq => by obtain ⟨rfl, rfl, rfl⟩ := hq; exact satS (by repeat constructor) (by repeat constructor)) ?_
    rintro _ _ _ ⟨rfl, rfl, rfl⟩
    refine go_two ?_ ?_
    ·skip
     refine go_bslice Tk rfl rfl rfl rfl rfl rfl rfl rfl (fun _ _ => satA) ?_
     intro b2
     refine go_lit_int (kk := .u32) [11, 12] (by repeat constructor) (by simp) ?_
     refine go_two ?_ ?_
     ·skip
      refine go_call (law13F 1 _ 2 2) rfl rfl (by rfl) rfl (by repeat constructor) (by repeat constructor) (fun _ v Ps' Os' hq => by obtain ⟨rfl, rfl, rfl⟩ := hq; exact satS (by repeat constructor) (by repeat constructor)) ?_
      rintro _ _ _ ⟨rfl, rfl, rfl⟩
      refine go_bslice Tk rfl rfl rfl rfl rfl rfl rfl rfl (fun _ _ => satA) ?_
      intro b3
      refine go_lit_int (kk := .u32) [12, 13] (by repeat constructor) (by simp) ?_
      refine go_call (law13F 1 _ 2 2) rfl rfl (by rfl) rfl (by repeat constructor) (by repeat constructor) (fun _ v Ps' Os' hq => by obtain ⟨rfl, rfl, rfl⟩ := hq; exact satS (by repeat constructor) (by repeat constructor)) ?_
      rintro _ _ _ ⟨rfl, rfl, rfl⟩
      refine go_pure1 Tk rfl rfl rfl ?_
      refine go_bslice Tk rfl rfl rfl rfl rfl rfl rfl rfl (fun _ _ => satA) ?_
      intro bf
      refine go_lit tFa (b := bf) wn14 (by repeat constructor) (fun hp a => ⟨[_, _], _, rfl, tFa_mk (x := (⟨1, [10, 11]⟩ : Fa)) (a (sl tU _ _ [10, 11]) (by repeat constructor)), [_, _], _, rfl, tFa_mk (x := (⟨1, [11, 12]⟩ : Fa)) (a (sl tU _ _ [11, 12]) (by repeat constructor)), [_, _], [], rfl, tFa_mk (x := (⟨1, [12, 13]⟩ : Fa)) (a (sl tU _ _ [12, 13]) (by repeat constructor)), rfl⟩) (by decide) ?_
      refine go_pure1 Tk rfl rfl rfl ?_
      refine go_nil ?_
      refine go_env [(0, _), (1, _)] ⟨rfl, rfl, trivial⟩ ?_
      refine go_ret ⟨rfl, rfl⟩ [sl tCl (some ⟨bs, 0, none⟩) 1 [wc14], sl tFa (some ⟨bf, 0, none⟩) 3 wn14] [] (res2 (by rfl) (.tmp rfl) (.tmp rfl)) ⟨_, _, rfl, rfl, rfl⟩ (by repeat constructor) (by repeat constructor)
     refine go_bslice Tk rfl rfl rfl rfl rfl rfl rfl rfl (fun _ _ => satA) ?_
     intro b4
     refine go_lit_int (kk := .u32) [12, 13] (by repeat constructor) (by simp) ?_
     refine go_call (law13F 1 _ 2 2) rfl rfl (by rfl) rfl (by repeat constructor) (by repeat constructor) (fun _ v Ps' Os' hq => by obtain ⟨rfl, rfl, rfl⟩ := hq; exact satS (by repeat constructor) (by repeat constructor)) ?_
     rintro _ _ _ ⟨rfl, rfl, rfl⟩
     refine go_call (law13F 1 _ 2 2) rfl rfl (by rfl) rfl (by repeat constructor) (by repeat constructor) (fun _ v Ps' Os' hq => by obtain ⟨rfl, rfl, rfl⟩ := hq; exact satS (by repeat constructor) (by repeat constructor)) ?_
     rintro _ _ _ ⟨rfl, rfl, rfl⟩
     refine go_pure1 Tk rfl rfl rfl ?_
     refine go_bslice Tk rfl rfl rfl rfl rfl rfl rfl rfl (fun _ _ => satA) ?_
     intro bf
     refine go_lit tFa (b := bf) wn14 (by repeat constructor) (fun hp a => ⟨[_, _], _, rfl, tFa_mk (x := (⟨1, [10, 11]⟩ : Fa)) (a (sl tU _ _ [10, 11]) (by repeat constructor)), [_, _], _, rfl, tFa_mk (x := (⟨1, [11, 12]⟩ : Fa)) (a (sl tU _ _ [11, 12]) (by repeat constructor)), [_, _], [], rfl, tFa_mk (x := (⟨1, [12, 13]⟩ : Fa)) (a (sl tU _ _ [12, 13]) (by repeat constructor)), rfl⟩) (by decide) ?_
     refine go_pure1 Tk rfl rfl rfl ?_
     refine go_nil ?_
     refine go_env [(0, _), (1, _)] ⟨rfl, rfl, trivial⟩ ?_
     refine go_ret ⟨rfl, rfl⟩ _ _ (res2 (by rfl) (.tmp rfl) (.tmp rfl)) ⟨_, _, rfl, rfl, rfl⟩ (by repeat constructor) (by repeat constructor)
    refine go_bslice Tk rfl rfl rfl rfl rfl rfl rfl rfl (fun _ _ => satA) ?_
    intro b5
    refine go_lit_int (kk := .u32) [12, 13] (by repeat constructor) (by simp) ?_
    refine go_bslice Tk rfl rfl rfl rfl rfl rfl rfl rfl (fun _ _ => satA) ?_
    intro b6
    refine go_lit_int (kk := .u32) [11, 12] (by repeat constructor) (by simp) ?_
    refine go_call (law13F 1 _ 2 2) rfl rfl (by rfl) rfl (by repeat constructor) (by repeat constructor) (fun _ v Ps' Os' hq => by obtain ⟨rfl, rfl, rfl⟩ := hq; exact satS (by repeat constructor) (by repeat constructor)) ?_
    rintro _ _ _ ⟨rfl, rfl, rfl⟩
    refine go_call (law13F 1 _ 2 2) rfl rfl (by rfl) rfl (by repeat constructor) (by repeat constructor) (fun _ v Ps' Os' hq => by obtain ⟨rfl, rfl, rfl⟩ := hq; exact satS (by repeat constructor) (by repeat constructor)) ?_
    rintro _ _ _ ⟨rfl, rfl, rfl⟩
    refine go_pure1 Tk rfl rfl rfl ?_
    refine go_bslice Tk rfl rfl rfl rfl rfl rfl rfl rfl (fun _ _ => satA) ?_
    intro bf
    refine go_lit tFa (b := bf) wn14 (by repeat constructor) (fun hp a => ⟨[_, _], _, rfl, tFa_mk (x := (⟨1, [10, 11]⟩ : Fa)) (a (sl tU _ _ [10, 11]) (by repeat constructor)), [_, _], _, rfl, tFa_mk (x := (⟨1, [11, 12]⟩ : Fa)) (a (sl tU _ _ [11, 12]) (by repeat constructor)), [_, _], [], rfl, tFa_mk (x := (⟨1, [12, 13]⟩ : Fa)) (a (sl tU _ _ [12, 13]) (by repeat constructor)), rfl⟩) (by decide) ?_
    refine go_pure1 Tk rfl rfl rfl ?_
    refine go_nil ?_
    refine go_env [(0, _), (1, _)] ⟨rfl, rfl, trivial⟩ ?_
    refine go_ret ⟨rfl, rfl⟩ _ _ (res2 (by rfl) (.tmp rfl) (.tmp rfl)) ⟨_, _, rfl, rfl, rfl⟩ (by repeat constructor) (by repeat constructor)
   refine go_two ?_ ?_
   ·skip
    refine go_bslice Tk rfl rfl rfl rfl rfl rfl rfl rfl (fun _ _ => satA) ?_
    intro b7
    refine go_lit_int (kk := .u32) [11, 12] (by repeat constructor) (by simp) ?_
    refine go_two ?_ ?_
    ·skip
     refine go_call (law13F 1 _ 2 2) rfl rfl (by rfl) rfl (by repeat constructor) (by repeat constructor) (fun _ v Ps' Os' hq => by obtain ⟨rfl, rfl, rfl⟩ := hq; exact satS (by repeat constructor) (by repeat constructor)) ?_
     rintro _ _ _ ⟨rfl, rfl, rfl⟩
     refine go_two ?_ ?_
     ·skip
      refine go_call (law13F 1 _ 2 2) rfl rfl (by rfl) rfl (by repeat constructor) (by repeat constructor) (fun _ v Ps' Os' hq => by obtain ⟨rfl, rfl, rfl⟩ := hq; exact satS (by repeat constructor) (by repeat constructor)) ?_
      rintro _ _ _ ⟨rfl, rfl, rfl⟩
      refine go_bslice Tk rfl rfl rfl rfl rfl rfl rfl rfl (fun _ _ => satA) ?_
      intro b8
      refine go_lit_int (kk := .u32) [12, 13] (by repeat constructor) (by simp) ?_
      refine go_call (law13F 1 _ 2 2) rfl rfl (by rfl) rfl (by repeat constructor) (by repeat constructor) (fun _ v Ps' Os' hq => by obtain ⟨rfl, rfl, rfl⟩ := hq; exact satS (by repeat constructor) (by repeat constructor)) ?_
      rintro _ _ _ ⟨rfl, rfl, rfl⟩
      refine go_pure1 Tk rfl rfl rfl ?_
      refine go_bslice Tk rfl rfl rfl rfl rfl rfl rfl rfl (fun _ _ => satA) ?_
      intro bf
      refine go_lit tFa (b := bf) wn14 (by repeat constructor) (fun hp a => ⟨[_, _], _, rfl, tFa_mk (x := (⟨1, [10, 11]⟩ : Fa)) (a (sl tU _ _ [10, 11]) (by repeat constructor)), [_, _], _, rfl, tFa_mk (x := (⟨1, [11, 12]⟩ : Fa)) (a (sl tU _ _ [11, 12]) (by repeat constructor)), [_, _], [], rfl, tFa_mk (x := (⟨1, [12, 13]⟩ : Fa)) (a (sl tU _ _ [12, 13]) (by repeat constructor)), rfl⟩) (by decide) ?_
      refine go_pure1 Tk rfl rfl rfl ?_
      refine go_nil ?_
      refine go_env [(0, _), (1, _)] ⟨rfl, rfl, trivial⟩ ?_
      refine go_ret ⟨rfl, rfl⟩ _ _ (res2 (by rfl) (.tmp rfl) (.tmp rfl)) ⟨_, _, rfl, rfl, rfl⟩ (by repeat constructor) (by repeat constructor)
     refine go_bslice Tk rfl rfl rfl rfl rfl rfl rfl rfl (fun _ _ => satA) ?_
     intro b9
     refine go_lit_int (kk := .u32) [12, 13] (by repeat constructor) (by simp) ?_
     refine go_call (law13F 1 _ 2 2) rfl rfl (by rfl) rfl (by repeat constructor) (by repeat constructor) (fun _ v Ps' Os' hq => by obtain ⟨rfl, rfl, rfl⟩ := hq; exact satS (by repeat constructor) (by repeat constructor)) ?_
     rintro _ _ _ ⟨rfl, rfl, rfl⟩
     refine go_call (law13F 1 _ 2 2) rfl rfl (by rfl) rfl (by repeat constructor) (by repeat constructor) (fun _ v Ps' Os' hq => by obtain ⟨rfl, rfl, rfl⟩ := hq; exact satS (by repeat constructor) (by repeat constructor)) ?_
     rintro _ _ _ ⟨rfl, rfl, rfl⟩
     refine go_pure1 Tk rfl rfl rfl ?_
     refine go_bslice Tk rfl rfl rfl rfl rfl rfl rfl rfl (fun _ _ => satA) ?_
     intro bf
     refine go_lit tFa (b := bf) wn14 (by repeat constructor) (fun hp a => ⟨[_, _], _, rfl, tFa_mk (x := (⟨1, [10, 11]⟩ : Fa)) (a (sl tU _ _ [10, 11]) (by repeat constructor)), [_, _], _, rfl, tFa_mk (x := (⟨1, [11, 12]⟩ : Fa)) (a (sl tU _ _ [11, 12]) (by repeat constructor)), [_, _], [], rfl, tFa_mk (x := (⟨1, [12, 13]⟩ : Fa)) (a (sl tU _ _ [12, 13]) (by repeat constructor)), rfl⟩) (by decide) ?_
     refine go_pure1 Tk rfl rfl rfl ?_
     refine go_nil ?_
     refine go_env [(0, _), (1, _)] ⟨rfl, rfl, trivial⟩ ?_
     refine go_ret ⟨rfl, rfl⟩ _ _ (res2 (by rfl) (.tmp rfl) (.tmp rfl)) ⟨_, _, rfl, rfl, rfl⟩ (by repeat constructor) (by repeat constructor)
    refine go_bslice Tk rfl rfl rfl rfl rfl rfl rfl rfl (fun _ _ => satA) ?_
    intro b10
    refine go_lit_int (kk := .u32) [12, 13] (by repeat constructor) (by simp) ?_
    refine go_call (law13F 1 _ 2 2) rfl rfl (by rfl) rfl (by repeat constructor) (by repeat constructor) (fun _ v Ps' Os' hq => by obtain ⟨rfl, rfl, rfl⟩ := hq; exact satS (by repeat constructor) (by repeat constructor)) ?_
    rintro _ _ _ ⟨rfl, rfl, rfl⟩
    refine go_call (law13F 1 _ 2 2) rfl rfl (by rfl) rfl (by repeat constructor) (by repeat constructor) (fun _ v Ps' Os' hq => by obtain ⟨rfl, rfl, rfl⟩ := hq; exact satS (by repeat constructor) (by repeat constructor)) ?_
    rintro _ _ _ ⟨rfl, rfl, rfl⟩
    refine go_call (law13F 1 _ 2 2) rfl rfl (by rfl) rfl (by repeat constructor) (by repeat constructor) (fun _ v Ps' Os' hq => by obtain ⟨rfl, rfl, rfl⟩ := hq; exact satS (by repeat constructor) (by repeat constructor)) ?_
    rintro _ _ _ ⟨rfl, rfl, rfl⟩
    refine go_pure1 Tk rfl rfl rfl ?_
    refine go_bslice Tk rfl rfl rfl rfl rfl rfl rfl rfl (fun _ _ => satA) ?_
    intro bf
    refine go_lit tFa (b := bf) wn14 (by repeat constructor) (fun hp a => ⟨[_, _], _, rfl, tFa_mk (x := (⟨1, [10, 11]⟩ : Fa)) (a (sl tU _ _ [10, 11]) (by repeat constructor)), [_, _], _, rfl, tFa_mk (x := (⟨1, [11, 12]⟩ : Fa)) (a (sl tU _ _ [11, 12]) (by repeat constructor)), [_, _], [], rfl, tFa_mk (x := (⟨1, [12, 13]⟩ : Fa)) (a (sl tU _ _ [12, 13]) (by repeat constructor)), rfl⟩) (by decide) ?_
    refine go_pure1 Tk rfl rfl rfl ?_
    refine go_nil ?_
    refine go_env [(0, _), (1, _)] ⟨rfl, rfl, trivial⟩ ?_
    refine go_ret ⟨rfl, rfl⟩ _ _ (res2 (by rfl) (.tmp rfl) (.tmp rfl)) ⟨_, _, rfl, rfl, rfl⟩ (by repeat constructor) (by repeat constructor)
   refine go_bslice Tk rfl rfl rfl rfl rfl rfl rfl rfl (fun _ _ => satA) ?_
   intro b11
   refine go_lit_int (kk := .u32) [12, 13] (by repeat constructor) (by simp) ?_
   refine go_two ?_ ?_
   ·skip
    refine go_call (law13F 1 _ 2 2) rfl rfl (by rfl) rfl (by repeat constructor) (by repeat constructor) (fun _ v Ps' Os' hq => by obtain ⟨rfl, rfl, rfl⟩ := hq; exact satS (by repeat constructor) (by repeat constructor)) ?_
    rintro _ _ _ ⟨rfl, rfl, rfl⟩
    refine go_bslice Tk rfl rfl rfl rfl rfl rfl rfl rfl (fun _ _ => satA) ?_
    intro b12
    refine go_lit_int (kk := .u32) [11, 12] (by repeat constructor) (by simp) ?_
    refine go_call (law13F 1 _ 2 2) rfl rfl (by rfl) rfl (by repeat constructor) (by repeat constructor) (fun _ v Ps' Os' hq => by obtain ⟨rfl, rfl, rfl⟩ := hq; exact satS (by repeat constructor) (by repeat constructor)) ?_
    rintro _ _ _ ⟨rfl, rfl, rfl⟩
    refine go_call (law13F 1 _ 2 2) rfl rfl (by rfl) rfl (by repeat constructor) (by repeat constructor) (fun _ v Ps' Os' hq => by obtain ⟨rfl, rfl, rfl⟩ := hq; exact satS (by repeat constructor) (by repeat constructor)) ?_
    rintro _ _ _ ⟨rfl, rfl, rfl⟩
    refine go_pure1 Tk rfl rfl rfl ?_
    refine go_bslice Tk rfl rfl rfl rfl rfl rfl rfl rfl (fun _ _ => satA) ?_
    intro bf
    refine go_lit tFa (b := bf) wn14 (by repeat constructor) (fun hp a => ⟨[_, _], _, rfl, tFa_mk (x := (⟨1, [10, 11]⟩ : Fa)) (a (sl tU _ _ [10, 11]) (by repeat constructor)), [_, _], _, rfl, tFa_mk (x := (⟨1, [11, 12]⟩ : Fa)) (a (sl tU _ _ [11, 12]) (by repeat constructor)), [_, _], [], rfl, tFa_mk (x := (⟨1, [12, 13]⟩ : Fa)) (a (sl tU _ _ [12, 13]) (by repeat constructor)), rfl⟩) (by decide) ?_
    refine go_pure1 Tk rfl rfl rfl ?_
    refine go_nil ?_
    refine go_env [(0, _), (1, _)] ⟨rfl, rfl, trivial⟩ ?_
    refine go_ret ⟨rfl, rfl⟩ _ _ (res2 (by rfl) (.tmp rfl) (.tmp rfl)) ⟨_, _, rfl, rfl, rfl⟩ (by repeat constructor) (by repeat constructor)
   refine go_bslice Tk rfl rfl rfl rfl rfl rfl rfl rfl (fun _ _ => satA) ?_
   intro b13
   refine go_lit_int (kk := .u32) [11, 12] (by repeat constructor) (by simp) ?_
   refine go_call (law13F 1 _ 2 2) rfl rfl (by rfl) rfl (by repeat constructor) (by repeat constructor) (fun _ v Ps' Os' hq => by obtain ⟨rfl, rfl, rfl⟩ := hq; exact satS (by repeat constructor) (by repeat constructor)) ?_
   rintro _ _ _ ⟨rfl, rfl, rfl⟩
   refine go_call (law13F 1 _ 2 2) rfl rfl (by rfl) rfl (by repeat constructor) (by repeat constructor) (fun _ v Ps' Os' hq => by obtain ⟨rfl, rfl, rfl⟩ := hq; exact satS (by repeat constructor) (by repeat constructor)) ?_
   rintro _ _ _ ⟨rfl, rfl, rfl⟩
   refine go_call (law13F 1 _ 2 2) rfl rfl (by rfl) rfl (by repeat constructor) (by repeat constructor) (fun _ v Ps' Os' hq => by obtain ⟨rfl, rfl, rfl⟩ := hq; exact satS (by repeat constructor) (by repeat constructor)) ?_
   rintro _ _ _ ⟨rfl, rfl, rfl⟩
   refine go_pure1 Tk rfl rfl rfl ?_
   refine go_bslice Tk rfl rfl rfl rfl rfl rfl rfl rfl (fun _ _ => satA) ?_
   intro bf
   refine go_lit tFa (b := bf) wn14 (by repeat constructor) (fun hp a => ⟨[_, _], _, rfl, tFa_mk (x := (⟨1, [10, 11]⟩ : Fa)) (a (sl tU _ _ [10, 11]) (by repeat constructor)), [_, _], _, rfl, tFa_mk (x := (⟨1, [11, 12]⟩ : Fa)) (a (sl tU _ _ [11, 12]) (by repeat constructor)), [_, _], [], rfl, tFa_mk (x := (⟨1, [12, 13]⟩ : Fa)) (a (sl tU _ _ [12, 13]) (by repeat constructor)), rfl⟩) (by decide) ?_
   refine go_pure1 Tk rfl rfl rfl ?_
   refine go_nil ?_
   refine go_env [(0, _), (1, _)] ⟨rfl, rfl, trivial⟩ ?_
   refine go_ret ⟨rfl, rfl⟩ _ _ (res2 (by rfl) (.tmp rfl) (.tmp rfl)) ⟨_, _, rfl, rfl, rfl⟩ (by repeat constructor) (by repeat constructor)
  refine go_two ?_ ?_
  ·skip
   refine go_bslice Tk rfl rfl rfl rfl rfl rfl rfl rfl (fun _ _ => satA) ?_
   intro b14
   refine go_lit_int (kk := .u32) [11, 12] (by repeat constructor) (by simp) ?_
   refine go_two ?_ ?_
   ·skip
    refine go_bslice Tk rfl rfl rfl rfl rfl rfl rfl rfl (fun _ _ => satA) ?_
    intro b15
    refine go_lit_int (kk := .u32) [10, 11] (by repeat constructor) (by simp) ?_
    refine go_two ?_ ?_
    ·skip
     refine go_call (law13F 1 _ 2 2) rfl rfl (by rfl) rfl (by repeat constructor) (by repeat constructor) (fun _ v Ps' Os' hq => by obtain ⟨rfl, rfl, rfl⟩ := hq; exact satS (by repeat constructor) (by repeat constructor)) ?_
     rintro _ _ _ ⟨rfl, rfl, rfl⟩
     refine go_two ?_ ?_
     ·skip
      refine go_call (law13F 1 _ 2 2) rfl rfl (by rfl) rfl (by repeat constructor) (by repeat constructor) (fun _ v Ps' Os' hq => by obtain ⟨rfl, rfl, rfl⟩ := hq; exact satS (by repeat constructor) (by repeat constructor)) ?_
      rintro _ _ _ ⟨rfl, rfl, rfl⟩
      refine go_bslice Tk rfl rfl rfl rfl rfl rfl rfl rfl (fun _ _ => satA) ?_
      intro b16
      refine go_lit_int (kk := .u32) [12, 13] (by repeat constructor) (by simp) ?_
      refine go_call (law13F 1 _ 2 2) rfl rfl (by rfl) rfl (by repeat constructor) (by repeat constructor) (fun _ v Ps' Os' hq => by obtain ⟨rfl, rfl, rfl⟩ := hq; exact satS (by repeat constructor) (by repeat constructor)) ?_
      rintro _ _ _ ⟨rfl, rfl, rfl⟩
      refine go_pure1 Tk rfl rfl rfl ?_
      refine go_bslice Tk rfl rfl rfl rfl rfl rfl rfl rfl (fun _ _ => satA) ?_
      intro bf
      refine go_lit tFa (b := bf) wn14 (by repeat constructor) (fun hp a => ⟨[_, _], _, rfl, tFa_mk (x := (⟨1, [10, 11]⟩ : Fa)) (a (sl tU _ _ [10, 11]) (by repeat constructor)), [_, _], _, rfl, tFa_mk (x := (⟨1, [11, 12]⟩ : Fa)) (a (sl tU _ _ [11, 12]) (by repeat constructor)), [_, _], [], rfl, tFa_mk (x := (⟨1, [12, 13]⟩ : Fa)) (a (sl tU _ _ [12, 13]) (by repeat constructor)), rfl⟩) (by decide) ?_
      refine go_pure1 Tk rfl rfl rfl ?_
      refine go_nil ?_
      refine go_env [(0, _), (1, _)] ⟨rfl, rfl, trivial⟩ ?_
      refine go_ret ⟨rfl, rfl⟩ _ _ (res2 (by rfl) (.tmp rfl) (.tmp rfl)) ⟨_, _, rfl, rfl, rfl⟩ (by repeat constructor) (by repeat constructor)
     refine go_bslice Tk rfl rfl rfl rfl rfl rfl rfl rfl (fun _ _ => satA) ?_
     intro b17
     refine go_lit_int (kk := .u32) [12, 13] (by repeat constructor) (by simp) ?_
     refine go_call (law13F 1 _ 2 2) rfl rfl (by rfl) rfl (by repeat constructor) (by repeat constructor) (fun _ v Ps' Os' hq => by obtain ⟨rfl, rfl, rfl⟩ := hq; exact satS (by repeat constructor) (by repeat constructor)) ?_
     rintro _ _ _ ⟨rfl, rfl, rfl⟩
     refine go_call (law13F 1 _ 2 2) rfl rfl (by rfl) rfl (by repeat constructor) (by repeat constructor) (fun _ v Ps' Os' hq => by obtain ⟨rfl, rfl, rfl⟩ := hq; exact satS (by repeat constructor) (by repeat constructor)) ?_
     rintro _ _ _ ⟨rfl, rfl, rfl⟩
     refine go_pure1 Tk rfl rfl rfl ?_
     refine go_bslice Tk rfl rfl rfl rfl rfl rfl rfl rfl (fun _ _ => satA) ?_
     intro bf
     refine go_lit tFa (b := bf) wn14 (by repeat constructor) (fun hp a => ⟨[_, _], _, rfl, tFa_mk (x := (⟨1, [10, 11]⟩ : Fa)) (a (sl tU _ _ [10, 11]) (by repeat constructor)), [_, _], _, rfl, tFa_mk (x := (⟨1, [11, 12]⟩ : Fa)) (a (sl tU _ _ [11, 12]) (by repeat constructor)), [_, _], [], rfl, tFa_mk (x := (⟨1, [12, 13]⟩ : Fa)) (a (sl tU _ _ [12, 13]) (by repeat constructor)), rfl⟩) (by decide) ?_
     refine go_pure1 Tk rfl rfl rfl ?_
     refine go_nil ?_
     refine go_env [(0, _), (1, _)] ⟨rfl, rfl, trivial⟩ ?_
     refine go_ret ⟨rfl, rfl⟩ _ _ (res2 (by rfl) (.tmp rfl) (.tmp rfl)) ⟨_, _, rfl, rfl, rfl⟩ (by repeat constructor) (by repeat constructor)
    refine go_bslice Tk rfl rfl rfl rfl rfl rfl rfl rfl (fun _ _ => satA) ?_
    intro b18
    refine go_lit_int (kk := .u32) [12, 13] (by repeat constructor) (by simp) ?_
    refine go_call (law13F 1 _ 2 2) rfl rfl (by rfl) rfl (by repeat constructor) (by repeat constructor) (fun _ v Ps' Os' hq => by obtain ⟨rfl, rfl, rfl⟩ := hq; exact satS (by repeat constructor) (by repeat constructor)) ?_
    rintro _ _ _ ⟨rfl, rfl, rfl⟩
    refine go_call (law13F 1 _ 2 2) rfl rfl (by rfl) rfl (by repeat constructor) (by repeat constructor) (fun _ v Ps' Os' hq => by obtain ⟨rfl, rfl, rfl⟩ := hq; exact satS (by repeat constructor) (by repeat constructor)) ?_
    rintro _ _ _ ⟨rfl, rfl, rfl⟩
    refine go_call (law13F 1 _ 2 2) rfl rfl (by rfl) rfl (by repeat constructor) (by repeat constructor) (fun _ v Ps' Os' hq => by obtain ⟨rfl, rfl, rfl⟩ := hq; exact satS (by repeat constructor) (by repeat constructor)) ?_
    rintro _ _ _ ⟨rfl, rfl, rfl⟩
    refine go_pure1 Tk rfl rfl rfl ?_
    refine go_bslice Tk rfl rfl rfl rfl rfl rfl rfl rfl (fun _ _ => satA) ?_
    intro bf
    refine go_lit tFa (b := bf) wn14 (by repeat constructor) (fun hp a => ⟨[_, _], _, rfl, tFa_mk (x := (⟨1, [10, 11]⟩ : Fa)) (a (sl tU _ _ [10, 11]) (by repeat constructor)), [_, _], _, rfl, tFa_mk (x := (⟨1, [11, 12]⟩ : Fa)) (a (sl tU _ _ [11, 12]) (by repeat constructor)), [_, _], [], rfl, tFa_mk (x := (⟨1, [12, 13]⟩ : Fa)) (a (sl tU _ _ [12, 13]) (by repeat constructor)), rfl⟩) (by decide) ?_
    refine go_pure1 Tk rfl rfl rfl ?_
    refine go_nil ?_
    refine go_env [(0, _), (1, _)] ⟨rfl, rfl, trivial⟩ ?_
    refine go_ret ⟨rfl, rfl⟩ _ _ (res2 (by rfl) (.tmp rfl) (.tmp rfl)) ⟨_, _, rfl, rfl, rfl⟩ (by repeat constructor) (by repeat constructor)
   refine go_bslice Tk rfl rfl rfl rfl rfl rfl rfl rfl (fun _ _ => satA) ?_
   intro b19
   refine go_lit_int (kk := .u32) [12, 13] (by repeat constructor) (by simp) ?_
   refine go_bslice Tk rfl rfl rfl rfl rfl rfl rfl rfl (fun _ _ => satA) ?_
   intro b20
   refine go_lit_int (kk := .u32) [10, 11] (by repeat constructor) (by simp) ?_
   refine go_call (law13F 1 _ 2 2) rfl rfl (by rfl) rfl (by repeat constructor) (by repeat constructor) (fun _ v Ps' Os' hq => by obtain ⟨rfl, rfl, rfl⟩ := hq; exact satS (by repeat constructor) (by repeat constructor)) ?_
   rintro _ _ _ ⟨rfl, rfl, rfl⟩
   refine go_call (law13F 1 _ 2 2) rfl rfl (by rfl) rfl (by repeat constructor) (by repeat constructor) (fun _ v Ps' Os' hq => by obtain ⟨rfl, rfl, rfl⟩ := hq; exact satS (by repeat constructor) (by repeat constructor)) ?_
   rintro _ _ _ ⟨rfl, rfl, rfl⟩
   refine go_call (law13F 1 _ 2 2) rfl rfl (by rfl) rfl (by repeat constructor) (by repeat constructor) (fun _ v Ps' Os' hq => by obtain ⟨rfl, rfl, rfl⟩ := hq; exact satS (by repeat constructor) (by repeat constructor)) ?_
   rintro _ _ _ ⟨rfl, rfl, rfl⟩
   refine go_pure1 Tk rfl rfl rfl ?_
   refine go_bslice Tk rfl rfl rfl rfl rfl rfl rfl rfl (fun _ _ => satA) ?_
   intro bf
   refine go_lit tFa (b := bf) wn14 (by repeat constructor) (fun hp a => ⟨[_, _], _, rfl, tFa_mk (x := (⟨1, [10, 11]⟩ : Fa)) (a (sl tU _ _ [10, 11]) (by repeat constructor)), [_, _], _, rfl, tFa_mk (x := (⟨1, [11, 12]⟩ : Fa)) (a (sl tU _ _ [11, 12]) (by repeat constructor)), [_, _], [], rfl, tFa_mk (x := (⟨1, [12, 13]⟩ : Fa)) (a (sl tU _ _ [12, 13]) (by repeat constructor)), rfl⟩) (by decide) ?_
   refine go_pure1 Tk rfl rfl rfl ?_
   refine go_nil ?_
   refine go_env [(0, _), (1, _)] ⟨rfl, rfl, trivial⟩ ?_
   refine go_ret ⟨rfl, rfl⟩ _ _ (res2 (by rfl) (.tmp rfl) (.tmp rfl)) ⟨_, _, rfl, rfl, rfl⟩ (by repeat constructor) (by repeat constructor)
  refine go_bslice Tk rfl rfl rfl rfl rfl rfl rfl rfl (fun _ _ => satA) ?_
  intro b21
  refine go_lit_int (kk := .u32) [12, 13] (by repeat constructor) (by simp) ?_
  refine go_two ?_ ?_
  ·skip
   refine go_bslice Tk rfl rfl rfl rfl rfl rfl rfl rfl (fun _ _ => satA) ?_
   intro b22
   refine go_lit_int (kk := .u32) [10, 11] (by repeat constructor) (by simp) ?_
   refine go_two ?_ ?_
   ·skip
    refine go_call (law13F 1 _ 2 2) rfl rfl (by rfl) rfl (by repeat constructor) (by repeat constructor) (fun _ v Ps' Os' hq => by obtain ⟨rfl, rfl, rfl⟩ := hq; exact satS (by repeat constructor) (by repeat constructor)) ?_
    rintro _ _ _ ⟨rfl, rfl, rfl⟩
    refine go_bslice Tk rfl rfl rfl rfl rfl rfl rfl rfl (fun _ _ => satA) ?_
    intro b23
    refine go_lit_int (kk := .u32) [11, 12] (by repeat constructor) (by simp) ?_
    refine go_call (law13F 1 _ 2 2) rfl rfl (by rfl) rfl (by repeat constructor) (by repeat constructor) (fun _ v Ps' Os' hq => by obtain ⟨rfl, rfl, rfl⟩ := hq; exact satS (by repeat constructor) (by repeat constructor)) ?_
    rintro _ _ _ ⟨rfl, rfl, rfl⟩
    refine go_call (law13F 1 _ 2 2) rfl rfl (by rfl) rfl (by repeat constructor) (by repeat constructor) (fun _ v Ps' Os' hq => by obtain ⟨rfl, rfl, rfl⟩ := hq; exact satS (by repeat constructor) (by repeat constructor)) ?_
    rintro _ _ _ ⟨rfl, rfl, rfl⟩
    refine go_pure1 Tk rfl rfl rfl ?_
    refine go_bslice Tk rfl rfl rfl rfl rfl rfl rfl rfl (fun _ _ => satA) ?_
    intro bf
    refine go_lit tFa (b := bf) wn14 (by repeat constructor) (fun hp a => ⟨[_, _], _, rfl, tFa_mk (x := (⟨1, [10, 11]⟩ : Fa)) (a (sl tU _ _ [10, 11]) (by repeat constructor)), [_, _], _, rfl, tFa_mk (x := (⟨1, [11, 12]⟩ : Fa)) (a (sl tU _ _ [11, 12]) (by repeat constructor)), [_, _], [], rfl, tFa_mk (x := (⟨1, [12, 13]⟩ : Fa)) (a (sl tU _ _ [12, 13]) (by repeat constructor)), rfl⟩) (by decide) ?_
    refine go_pure1 Tk rfl rfl rfl ?_
    refine go_nil ?_
    refine go_env [(0, _), (1, _)] ⟨rfl, rfl, trivial⟩ ?_
    refine go_ret ⟨rfl, rfl⟩ _ _ (res2 (by rfl) (.tmp rfl) (.tmp rfl)) ⟨_, _, rfl, rfl, rfl⟩ (by repeat constructor) (by repeat constructor)
   refine go_bslice Tk rfl rfl rfl rfl rfl rfl rfl rfl (fun _ _ => satA) ?_
   intro b24
   refine go_lit_int (kk := .u32) [11, 12] (by repeat constructor) (by simp) ?_
   refine go_call (law13F 1 _ 2 2) rfl rfl (by rfl) rfl (by repeat constructor) (by repeat constructor) (fun _ v Ps' Os' hq => by obtain ⟨rfl, rfl, rfl⟩ := hq; exact satS (by repeat constructor) (by repeat constructor)) ?_
   rintro _ _ _ ⟨rfl, rfl, rfl⟩
   refine go_call (law13F 1 _ 2 2) rfl rfl (by rfl) rfl (by repeat constructor) (by repeat constructor) (fun _ v Ps' Os' hq => by obtain ⟨rfl, rfl, rfl⟩ := hq; exact satS (by repeat constructor) (by repeat constructor)) ?_
   rintro _ _ _ ⟨rfl, rfl, rfl⟩
   refine go_call (law13F 1 _ 2 2) rfl rfl (by rfl) rfl (by repeat constructor) (by repeat constructor) (fun _ v Ps' Os' hq => by obtain ⟨rfl, rfl, rfl⟩ := hq; exact satS (by repeat constructor) (by repeat constructor)) ?_
   rintro _ _ _ ⟨rfl, rfl, rfl⟩
   refine go_pure1 Tk rfl rfl rfl ?_
   refine go_bslice Tk rfl rfl rfl rfl rfl rfl rfl rfl (fun _ _ => satA) ?_
   intro bf
   refine go_lit tFa (b := bf) wn14 (by repeat constructor) (fun hp a => ⟨[_, _], _, rfl, tFa_mk (x := (⟨1, [10, 11]⟩ : Fa)) (a (sl tU _ _ [10, 11]) (by repeat constructor)), [_, _], _, rfl, tFa_mk (x := (⟨1, [11, 12]⟩ : Fa)) (a (sl tU _ _ [11, 12]) (by repeat constructor)), [_, _], [], rfl, tFa_mk (x := (⟨1, [12, 13]⟩ : Fa)) (a (sl tU _ _ [12, 13]) (by repeat constructor)), rfl⟩) (by decide) ?_
   refine go_pure1 Tk rfl rfl rfl ?_
   refine go_nil ?_
   refine go_env [(0, _), (1, _)] ⟨rfl, rfl, trivial⟩ ?_
   refine go_ret ⟨rfl, rfl⟩ _ _ (res2 (by rfl) (.tmp rfl) (.tmp rfl)) ⟨_, _, rfl, rfl, rfl⟩ (by repeat constructor) (by repeat constructor)
  refine go_bslice Tk rfl rfl rfl rfl rfl rfl rfl rfl (fun _ _ => satA) ?_
  intro b25
  refine go_lit_int (kk := .u32) [11, 12] (by repeat constructor) (by simp) ?_
  refine go_bslice Tk rfl rfl rfl rfl rfl rfl rfl rfl (fun _ _ => satA) ?_
  intro b26
  refine go_lit_int (kk := .u32) [10, 11] (by repeat constructor) (by simp) ?_
  refine go_call (law13F 1 _ 2 2) rfl rfl (by rfl) rfl (by repeat constructor) (by repeat constructor) (fun _ v Ps' Os' hq => by obtain ⟨rfl, rfl, rfl⟩ := hq; exact satS (by repeat constructor) (by repeat constructor)) ?_
  rintro _ _ _ ⟨rfl, rfl, rfl⟩
  refine go_call (law13F 1 _ 2 2) rfl rfl (by rfl) rfl (by repeat constructor) (by repeat constructor) (fun _ v Ps' Os' hq => by obtain ⟨rfl, rfl, rfl⟩ := hq; exact satS (by repeat constructor) (by repeat constructor)) ?_
  rintro _ _ _ ⟨rfl, rfl, rfl⟩
  refine go_call (law13F 1 _ 2 2) rfl rfl (by rfl) rfl (by repeat constructor) (by repeat constructor) (fun _ v Ps' Os' hq => by obtain ⟨rfl, rfl, rfl⟩ := hq; exact satS (by repeat constructor) (by repeat constructor)) ?_
  rintro _ _ _ ⟨rfl, rfl, rfl⟩
  refine go_pure1 Tk rfl rfl rfl ?_
  refine go_bslice Tk rfl rfl rfl rfl rfl rfl rfl rfl (fun _ _ => satA) ?_
  intro bf
  refine go_lit tFa (b := bf) wn14 (by repeat constructor) (fun hp a => ⟨[_, _], _, rfl, tFa_mk (x := (⟨1, [10, 11]⟩ : Fa)) (a (sl tU _ _ [10, 11]) (by repeat constructor)), [_, _], _, rfl, tFa_mk (x := (⟨1, [11, 12]⟩ : Fa)) (a (sl tU _ _ [11, 12]) (by repeat constructor)), [_, _], [], rfl, tFa_mk (x := (⟨1, [12, 13]⟩ : Fa)) (a (sl tU _ _ [12, 13]) (by repeat constructor)), rfl⟩) (by decide) ?_
  refine go_pure1 Tk rfl rfl rfl ?_
  refine go_nil ?_
  refine go_env [(0, _), (1, _)] ⟨rfl, rfl, trivial⟩ ?_
  refine go_ret ⟨rfl, rfl⟩ _ _ (res2 (by rfl) (.tmp rfl) (.tmp rfl)) ⟨_, _, rfl, rfl, rfl⟩ (by repeat constructor) (by repeat constructor)
 refine go_two ?_ ?_
 ·skip
  refine go_bslice Tk rfl rfl rfl rfl rfl rfl rfl rfl (fun _ _ => satA) ?_
  intro b27
  refine go_lit_int (kk := .u32) [10, 11] (by repeat constructor) (by simp) ?_
  refine go_two ?_ ?_
  ·skip
   refine go_bslice Tk rfl rfl rfl rfl rfl rfl rfl rfl (fun h => nomatch h) ?_
   intro bs
   refine go_lit tCl (b := bs) [wc14] (by repeat constructor) (fun hp a => ⟨[.int .u32 wc14.h.p, .slice (some ⟨u1, 0, none⟩) wc14.h.a.length 2, .slice (some ⟨u5, 0, none⟩) wc14.b.length 2], [], rfl, tCl_mk (a (sl tTm (some ⟨u1, 0, none⟩) 2 wc14.h.a) (by repeat constructor)) (a (sl tLi (some ⟨u5, 0, none⟩) 2 wc14.b) (by repeat constructor)), rfl⟩) (by simp) ?_
   refine go_two ?_ ?_
   ·skip
    refine go_call (law13F 1 _ 2 2) rfl rfl (by rfl) rfl (by repeat constructor) (by repeat constructor) (fun _ v Ps' Os' hq => by obtain ⟨rfl, rfl, rfl⟩ := hq; exact satS (by repeat constructor) (by repeat constructor)) ?_
    rintro _ _ _ ⟨rfl, rfl, rfl⟩
    refine go_two ?_ ?_
    ·skip
     refine go_bslice Tk rfl rfl rfl rfl rfl rfl rfl rfl (fun _ _ => satA) ?_
     intro b28
     refine go_lit_int (kk := .u32) [11, 12] (by repeat constructor) (by simp) ?_
     refine go_two ?_ ?_
     ·skip
      refine go_call (law13F 1 _ 2 2) rfl rfl (by rfl) rfl (by repeat constructor) (by repeat constructor) (fun _ v Ps' Os' hq => by obtain ⟨rfl, rfl, rfl⟩ := hq; exact satS (by repeat constructor) (by repeat constructor)) ?_
      rintro _ _ _ ⟨rfl, rfl, rfl⟩
      refine go_bslice Tk rfl rfl rfl rfl rfl rfl rfl rfl (fun _ _ => satA) ?_
      intro b29
      refine go_lit_int (kk := .u32) [12, 13] (by repeat constructor) (by simp) ?_
      refine go_call (law13F 1 _ 2 2) rfl rfl (by rfl) rfl (by repeat constructor) (by repeat constructor) (fun _ v Ps' Os' hq => by obtain ⟨rfl, rfl, rfl⟩ := hq; exact satS (by repeat constructor) (by repeat constructor)) ?_
      rintro _ _ _ ⟨rfl, rfl, rfl⟩
      refine go_pure1 Tk rfl rfl rfl ?_
      refine go_bslice Tk rfl rfl rfl rfl rfl rfl rfl rfl (fun _ _ => satA) ?_
      intro bf
      refine go_lit tFa (b := bf) wn14 (by repeat constructor) (fun hp a => ⟨[_, _], _, rfl, tFa_mk (x := (⟨1, [10, 11]⟩ : Fa)) (a (sl tU _ _ [10, 11]) (by repeat constructor)), [_, _], _, rfl, tFa_mk (x := (⟨1, [11, 12]⟩ : Fa)) (a (sl tU _ _ [11, 12]) (by repeat constructor)), [_, _], [], rfl, tFa_mk (x := (⟨1, [12, 13]⟩ : Fa)) (a (sl tU _ _ [12, 13]) (by repeat constructor)), rfl⟩) (by decide) ?_
      refine go_pure1 Tk rfl rfl rfl ?_
      refine go_nil ?_
      refine go_env [(0, _), (1, _)] ⟨rfl, rfl, trivial⟩ ?_
      refine go_ret ⟨rfl, rfl⟩ _ _ (res2 (by rfl) (.tmp rfl) (.tmp rfl)) ⟨_, _, rfl, rfl, rfl⟩ (by repeat constructor) (by repeat constructor)
     refine go_bslice Tk rfl rfl rfl rfl rfl rfl rfl rfl (fun _ _ => satA) ?_
     intro b30
     refine go_lit_int (kk := .u32) [12, 13] (by repeat constructor) (by simp) ?_
     refine go_call (law13F 1 _ 2 2) rfl rfl (by rfl) rfl (by repeat constructor) (by repeat constructor) (fun _ v Ps' Os' hq => by obtain ⟨rfl, rfl, rfl⟩ := hq; exact satS (by repeat constructor) (by repeat constructor)) ?_
     rintro _ _ _ ⟨rfl, rfl, rfl⟩
     refine go_call (law13F 1 _ 2 2) rfl rfl (by rfl) rfl (by repeat constructor) (by repeat constructor) (fun _ v Ps' Os' hq => by obtain ⟨rfl, rfl, rfl⟩ := hq; exact satS (by repeat constructor) (by repeat constructor)) ?_
     rintro _ _ _ ⟨rfl, rfl, rfl⟩
     refine go_pure1 Tk rfl rfl rfl ?_
     refine go_bslice Tk rfl rfl rfl rfl rfl rfl rfl rfl (fun _ _ => satA) ?_
     intro bf
     refine go_lit tFa (b := bf) wn14 (by repeat constructor) (fun hp a => ⟨[_, _], _, rfl, tFa_mk (x := (⟨1, [10, 11]⟩ : Fa)) (a (sl tU _ _ [10, 11]) (by repeat constructor)), [_, _], _, rfl, tFa_mk (x := (⟨1, [11, 12]⟩ : Fa)) (a (sl tU _ _ [11, 12]) (by repeat constructor)), [_, _], [], rfl, tFa_mk (x := (⟨1, [12, 13]⟩ : Fa)) (a (sl tU _ _ [12, 13]) (by repeat constructor)), rfl⟩) (by decide) ?_
     refine go_pure1 Tk rfl rfl rfl ?_
     refine go_nil ?_
     refine go_env [(0, _), (1, _)] ⟨rfl, rfl, trivial⟩ ?_
     refine go_ret ⟨rfl, rfl⟩ _ _ (res2 (by rfl) (.tmp rfl) (.tmp rfl)) ⟨_, _, rfl, rfl, rfl⟩ (by repeat constructor) (by repeat constructor)
    refine go_bslice Tk rfl rfl rfl rfl rfl rfl rfl rfl (fun _ _ => satA) ?_
    intro b31
    refine go_lit_int (kk := .u32) [12, 13] (by repeat constructor) (by simp) ?_
    refine go_bslice Tk rfl rfl rfl rfl rfl rfl rfl rfl (fun _ _ => satA) ?_
    intro b32
    refine go_lit_int (kk := .u32) [11, 12] (by repeat constructor) (by simp) ?_
    refine go_call (law13F 1 _ 2 2) rfl rfl (by rfl) rfl (by repeat constructor) (by repeat constructor) (fun _ v Ps' Os' hq => by obtain ⟨rfl, rfl, rfl⟩ := hq; exact satS (by repeat constructor) (by repeat constructor)) ?_
    rintro _ _ _ ⟨rfl, rfl, rfl⟩
    refine go_call (law13F 1 _ 2 2) rfl rfl (by rfl) rfl (by repeat constructor) (by repeat constructor) (fun _ v Ps' Os' hq => by obtain ⟨rfl, rfl, rfl⟩ := hq; exact satS (by repeat constructor) (by repeat constructor)) ?_
    rintro _ _ _ ⟨rfl, rfl, rfl⟩
    refine go_pure1 Tk rfl rfl rfl ?_
    refine go_bslice Tk rfl rfl rfl rfl rfl rfl rfl rfl (fun _ _ => satA) ?_
    intro bf
    refine go_lit tFa (b := bf) wn14 (by repeat constructor) (fun hp a => ⟨[_, _], _, rfl, tFa_mk (x := (⟨1, [10, 11]⟩ : Fa)) (a (sl tU _ _ [10, 11]) (by repeat constructor)), [_, _], _, rfl, tFa_mk (x := (⟨1, [11, 12]⟩ : Fa)) (a (sl tU _ _ [11, 12]) (by repeat constructor)), [_, _], [], rfl, tFa_mk (x := (⟨1, [12, 13]⟩ : Fa)) (a (sl tU _ _ [12, 13]) (by repeat constructor)), rfl⟩) (by decide) ?_
    refine go_pure1 Tk rfl rfl rfl ?_
    refine go_nil ?_
    refine go_env [(0, _), (1, _)] ⟨rfl, rfl, trivial⟩ ?_
    refine go_ret ⟨rfl, rfl⟩ _ _ (res2 (by rfl) (.tmp rfl) (.tmp rfl)) ⟨_, _, rfl, rfl, rfl⟩ (by repeat constructor) (by repeat constructor)
   refine go_two ?_ ?_
   ·skip
    refine go_bslice Tk rfl rfl rfl rfl rfl rfl rfl rfl (fun _ _ => satA) ?_
    intro b33
    refine go_lit_int (kk := .u32) [11, 12] (by repeat constructor) (by simp) ?_
    refine go_two ?_ ?_
    ·skip
     refine go_call (law13F 1 _ 2 2) rfl rfl (by rfl) rfl (by repeat constructor) (by repeat constructor) (fun _ v Ps' Os' hq => by obtain ⟨rfl, rfl, rfl⟩ := hq; exact satS (by repeat constructor) (by repeat constructor)) ?_
     rintro _ _ _ ⟨rfl, rfl, rfl⟩
     refine go_two ?_ ?_
     ·skip
      refine go_call (law13F 1 _ 2 2) rfl rfl (by rfl) rfl (by repeat constructor) (by repeat constructor) (fun _ v Ps' Os' hq => by obtain ⟨rfl, rfl, rfl⟩ := hq; exact satS (by repeat constructor) (by repeat constructor)) ?_
      rintro _ _ _ ⟨rfl, rfl, rfl⟩
      refine go_bslice Tk rfl rfl rfl rfl rfl rfl rfl rfl (fun _ _ => satA) ?_
      intro b34
      refine go_lit_int (kk := .u32) [12, 13] (by repeat constructor) (by simp) ?_
      refine go_call (law13F 1 _ 2 2) rfl rfl (by rfl) rfl (by repeat constructor) (by repeat constructor) (fun _ v Ps' Os' hq => by obtain ⟨rfl, rfl, rfl⟩ := hq; exact satS (by repeat constructor) (by repeat constructor)) ?_
      rintro _ _ _ ⟨rfl, rfl, rfl⟩
      refine go_pure1 Tk rfl rfl rfl ?_
      refine go_bslice Tk rfl rfl rfl rfl rfl rfl rfl rfl (fun _ _ => satA) ?_
      intro bf
      refine go_lit tFa (b := bf) wn14 (by repeat constructor) (fun hp a => ⟨[_, _], _, rfl, tFa_mk (x := (⟨1, [10, 11]⟩ : Fa)) (a (sl tU _ _ [10, 11]) (by repeat constructor)), [_, _], _, rfl, tFa_mk (x := (⟨1, [11, 12]⟩ : Fa)) (a (sl tU _ _ [11, 12]) (by repeat constructor)), [_, _], [], rfl, tFa_mk (x := (⟨1, [12, 13]⟩ : Fa)) (a (sl tU _ _ [12, 13]) (by repeat constructor)), rfl⟩) (by decide) ?_
      refine go_pure1 Tk rfl rfl rfl ?_
      refine go_nil ?_
      refine go_env [(0, _), (1, _)] ⟨rfl, rfl, trivial⟩ ?_
      refine go_ret ⟨rfl, rfl⟩ _ _ (res2 (by rfl) (.tmp rfl) (.tmp rfl)) ⟨_, _, rfl, rfl, rfl⟩ (by repeat constructor) (by repeat constructor)
     refine go_bslice Tk rfl rfl rfl rfl rfl rfl rfl rfl (fun _ _ => satA) ?_
     intro b35
     refine go_lit_int (kk := .u32) [12, 13] (by repeat constructor) (by simp) ?_
     refine go_call (law13F 1 _ 2 2) rfl rfl (by rfl) rfl (by repeat constructor) (by repeat constructor) (fun _ v Ps' Os' hq => by obtain ⟨rfl, rfl, rfl⟩ := hq; exact satS (by repeat constructor) (by repeat constructor)) ?_
     rintro _ _ _ ⟨rfl, rfl, rfl⟩
     refine go_call (law13F 1 _ 2 2) rfl rfl (by rfl) rfl (by repeat constructor) (by repeat constructor) (fun _ v Ps' Os' hq => by obtain ⟨rfl, rfl, rfl⟩ := hq; exact satS (by repeat constructor) (by repeat constructor)) ?_
     rintro _ _ _ ⟨rfl, rfl, rfl⟩
     refine go_pure1 Tk rfl rfl rfl ?_
     refine go_bslice Tk rfl rfl rfl rfl rfl rfl rfl rfl (fun _ _ => satA) ?_
     intro bf
     refine go_lit tFa (b := bf) wn14 (by repeat constructor) (fun hp a => ⟨[_, _], _, rfl, tFa_mk (x := (⟨1, [10, 11]⟩ : Fa)) (a (sl tU _ _ [10, 11]) (by repeat constructor)), [_, _], _, rfl, tFa_mk (x := (⟨1, [11, 12]⟩ : Fa)) (a (sl tU _ _ [11, 12]) (by repeat constructor)), [_, _], [], rfl, tFa_mk (x := (⟨1, [12, 13]⟩ : Fa)) (a (sl tU _ _ [12, 13]) (by repeat constructor)), rfl⟩) (by decide) ?_
     refine go_pure1 Tk rfl rfl rfl ?_
     refine go_nil ?_
     refine go_env [(0, _), (1, _)] ⟨rfl, rfl, trivial⟩ ?_
     refine go_ret ⟨rfl, rfl⟩ _ _ (res2 (by rfl) (.tmp rfl) (.tmp rfl)) ⟨_, _, rfl, rfl, rfl⟩ (by repeat constructor) (by repeat constructor)
    refine go_bslice Tk rfl rfl rfl rfl rfl rfl rfl rfl (fun _ _ => satA) ?_
    intro b36
    refine go_lit_int (kk := .u32) [12, 13] (by repeat constructor) (by simp) ?_
    refine go_call (law13F 1 _ 2 2) rfl rfl (by rfl) rfl (by repeat constructor) (by repeat constructor) (fun _ v Ps' Os' hq => by obtain ⟨rfl, rfl, rfl⟩ := hq; exact satS (by repeat constructor) (by repeat constructor)) ?_
    rintro _ _ _ ⟨rfl, rfl, rfl⟩
    refine go_call (law13F 1 _ 2 2) rfl rfl (by rfl) rfl (by repeat constructor) (by repeat constructor) (fun _ v Ps' Os' hq => by obtain ⟨rfl, rfl, rfl⟩ := hq; exact satS (by repeat constructor) (by repeat constructor)) ?_
    rintro _ _ _ ⟨rfl, rfl, rfl⟩
    refine go_call (law13F 1 _ 2 2) rfl rfl (by rfl) rfl (by repeat constructor) (by repeat constructor) (fun _ v Ps' Os' hq => by obtain ⟨rfl, rfl, rfl⟩ := hq; exact satS (by repeat constructor) (by repeat constructor)) ?_
    rintro _ _ _ ⟨rfl, rfl, rfl⟩
    refine go_pure1 Tk rfl rfl rfl ?_
    refine go_bslice Tk rfl rfl rfl rfl rfl rfl rfl rfl (fun _ _ => satA) ?_
    intro bf
    refine go_lit tFa (b := bf) wn14 (by repeat constructor) (fun hp a => ⟨[_, _], _, rfl, tFa_mk (x := (⟨1, [10, 11]⟩ : Fa)) (a (sl tU _ _ [10, 11]) (by repeat constructor)), [_, _], _, rfl, tFa_mk (x := (⟨1, [11, 12]⟩ : Fa)) (a (sl tU _ _ [11, 12]) (by repeat constructor)), [_, _], [], rfl, tFa_mk (x := (⟨1, [12, 13]⟩ : Fa)) (a (sl tU _ _ [12, 13]) (by repeat constructor)), rfl⟩) (by decide) ?_
    refine go_pure1 Tk rfl rfl rfl ?_
    refine go_nil ?_
    refine go_env [(0, _), (1, _)] ⟨rfl, rfl, trivial⟩ ?_
    refine go_ret ⟨rfl, rfl⟩ _ _ (res2 (by rfl) (.tmp rfl) (.tmp rfl)) ⟨_, _, rfl, rfl, rfl⟩ (by repeat constructor) (by repeat constructor)
   refine go_bslice Tk rfl rfl rfl rfl rfl rfl rfl rfl (fun _ _ => satA) ?_
   intro b37
   refine go_lit_int (kk := .u32) [12, 13] (by repeat constructor) (by simp) ?_
   refine go_two ?_ ?_
   ·skip
    refine go_call (law13F 1 _ 2 2) rfl rfl (by rfl) rfl (by repeat constructor) (by repeat constructor) (fun _ v Ps' Os' hq => by obtain ⟨rfl, rfl, rfl⟩ := hq; exact satS (by repeat constructor) (by repeat constructor)) ?_
    rintro _ _ _ ⟨rfl, rfl, rfl⟩
    refine go_bslice Tk rfl rfl rfl rfl rfl rfl rfl rfl (fun _ _ => satA) ?_
    intro b38
    refine go_lit_int (kk := .u32) [11, 12] (by repeat constructor) (by simp) ?_
    refine go_call (law13F 1 _ 2 2) rfl rfl (by rfl) rfl (by repeat constructor) (by repeat constructor) (fun _ v Ps' Os' hq => by obtain ⟨rfl, rfl, rfl⟩ := hq; exact satS (by repeat constructor) (by repeat constructor)) ?_
    rintro _ _ _ ⟨rfl, rfl, rfl⟩
    refine go_call (law13F 1 _ 2 2) rfl rfl (by rfl) rfl (by repeat constructor) (by repeat constructor) (fun _ v Ps' Os' hq => by obtain ⟨rfl, rfl, rfl⟩ := hq; exact satS (by repeat constructor) (by repeat constructor)) ?_
    rintro _ _ _ ⟨rfl, rfl, rfl⟩
    refine go_pure1 Tk rfl rfl rfl ?_
    refine go_bslice Tk rfl rfl rfl rfl rfl rfl rfl rfl (fun _ _ => satA) ?_
    intro bf
    refine go_lit tFa (b := bf) wn14 (by repeat constructor) (fun hp a => ⟨[_, _], _, rfl, tFa_mk (x := (⟨1, [10, 11]⟩ : Fa)) (a (sl tU _ _ [10, 11]) (by repeat constructor)), [_, _], _, rfl, tFa_mk (x := (⟨1, [11, 12]⟩ : Fa)) (a (sl tU _ _ [11, 12]) (by repeat constructor)), [_, _], [], rfl, tFa_mk (x := (⟨1, [12, 13]⟩ : Fa)) (a (sl tU _ _ [12, 13]) (by repeat constructor)), rfl⟩) (by decide) ?_
    refine go_pure1 Tk rfl rfl rfl ?_
    refine go_nil ?_
    refine go_env [(0, _), (1, _)] ⟨rfl, rfl, trivial⟩ ?_
    refine go_ret ⟨rfl, rfl⟩ _ _ (res2 (by rfl) (.tmp rfl) (.tmp rfl)) ⟨_, _, rfl, rfl, rfl⟩ (by repeat constructor) (by repeat constructor)
   refine go_bslice Tk rfl rfl rfl rfl rfl rfl rfl rfl (fun _ _ => satA) ?_
   intro b39
   refine go_lit_int (kk := .u32) [11, 12] (by repeat constructor) (by simp) ?_
   refine go_call (law13F 1 _ 2 2) rfl rfl (by rfl) rfl (by repeat constructor) (by repeat constructor) (fun _ v Ps' Os' hq => by obtain ⟨rfl, rfl, rfl⟩ := hq; exact satS (by repeat constructor) (by repeat constructor)) ?_
   rintro _ _ _ ⟨rfl, rfl, rfl⟩
   refine go_call (law13F 1 _ 2 2) rfl rfl (by rfl) rfl (by repeat constructor) (by repeat constructor) (fun _ v Ps' Os' hq => by obtain ⟨rfl, rfl, rfl⟩ := hq; exact satS (by repeat constructor) (by repeat constructor)) ?_
   rintro _ _ _ ⟨rfl, rfl, rfl⟩
   refine go_call (law13F 1 _ 2 2) rfl rfl (by rfl) rfl (by repeat constructor) (by repeat constructor) (fun _ v Ps' Os' hq => by obtain ⟨rfl, rfl, rfl⟩ := hq; exact satS (by repeat constructor) (by repeat constructor)) ?_
   rintro _ _ _ ⟨rfl, rfl, rfl⟩
   refine go_pure1 Tk rfl rfl rfl ?_
   refine go_bslice Tk rfl rfl rfl rfl rfl rfl rfl rfl (fun _ _ => satA) ?_
   intro bf
   refine go_lit tFa (b := bf) wn14 (by repeat constructor) (fun hp a => ⟨[_, _], _, rfl, tFa_mk (x := (⟨1, [10, 11]⟩ : Fa)) (a (sl tU _ _ [10, 11]) (by repeat constructor)), [_, _], _, rfl, tFa_mk (x := (⟨1, [11, 12]⟩ : Fa)) (a (sl tU _ _ [11, 12]) (by repeat constructor)), [_, _], [], rfl, tFa_mk (x := (⟨1, [12, 13]⟩ : Fa)) (a (sl tU _ _ [12, 13]) (by repeat constructor)), rfl⟩) (by decide) ?_
   refine go_pure1 Tk rfl rfl rfl ?_
   refine go_nil ?_
   refine go_env [(0, _), (1, _)] ⟨rfl, rfl, trivial⟩ ?_
   refine go_ret ⟨rfl, rfl⟩ _ _ (res2 (by rfl) (.tmp rfl) (.tmp rfl)) ⟨_, _, rfl, rfl, rfl⟩ (by repeat constructor) (by repeat constructor)
  refine go_two ?_ ?_
  ·skip
   refine go_call (law13F 1 _ 2 2) rfl rfl (by rfl) rfl (by repeat constructor) (by repeat constructor) (fun _ v Ps' Os' hq => by obtain ⟨rfl, rfl, rfl⟩ := hq; exact satS (by repeat constructor) (by repeat constructor)) ?_
   rintro _ _ _ ⟨rfl, rfl, rfl⟩
   refine go_two ?_ ?_
   ·skip
    refine go_bslice Tk rfl rfl rfl rfl rfl rfl rfl rfl (fun h => nomatch h) ?_
    intro bs
    refine go_lit tCl (b := bs) [wc14] (by repeat constructor) (fun hp a => ⟨[.int .u32 wc14.h.p, .slice (some ⟨u1, 0, none⟩) wc14.h.a.length 2, .slice (some ⟨u5, 0, none⟩) wc14.b.length 2], [], rfl, tCl_mk (a (sl tTm (some ⟨u1, 0, none⟩) 2 wc14.h.a) (by repeat constructor)) (a (sl tLi (some ⟨u5, 0, none⟩) 2 wc14.b) (by repeat constructor)), rfl⟩) (by simp) ?_
    refine go_two ?_ ?_
    ·skip
     refine go_bslice Tk rfl rfl rfl rfl rfl rfl rfl rfl (fun _ _ => satA) ?_
     intro b40
     refine go_lit_int (kk := .u32) [11, 12] (by repeat constructor) (by simp) ?_
     refine go_two ?_ ?_
     ·skip
      refine go_call (law13F 1 _ 2 2) rfl rfl (by rfl) rfl (by repeat constructor) (by repeat constructor) (fun _ v Ps' Os' hq => by obtain ⟨rfl, rfl, rfl⟩ := hq; exact satS (by repeat constructor) (by repeat constructor)) ?_
      rintro _ _ _ ⟨rfl, rfl, rfl⟩
      refine go_bslice Tk rfl rfl rfl rfl rfl rfl rfl rfl (fun _ _ => satA) ?_
      intro b41
      refine go_lit_int (kk := .u32) [12, 13] (by repeat constructor) (by simp) ?_
      refine go_call (law13F 1 _ 2 2) rfl rfl (by rfl) rfl (by repeat constructor) (by repeat constructor) (fun _ v Ps' Os' hq => by obtain ⟨rfl, rfl, rfl⟩ := hq; exact satS (by repeat constructor) (by repeat constructor)) ?_
      rintro _ _ _ ⟨rfl, rfl, rfl⟩
      refine go_pure1 Tk rfl rfl rfl ?_
      refine go_bslice Tk rfl rfl rfl rfl rfl rfl rfl rfl (fun _ _ => satA) ?_
      intro bf
      refine go_lit tFa (b := bf) wn14 (by repeat constructor) (fun hp a => ⟨[_, _], _, rfl, tFa_mk (x := (⟨1, [10, 11]⟩ : Fa)) (a (sl tU _ _ [10, 11]) (by repeat constructor)), [_, _], _, rfl, tFa_mk (x := (⟨1, [11, 12]⟩ : Fa)) (a (sl tU _ _ [11, 12]) (by repeat constructor)), [_, _], [], rfl, tFa_mk (x := (⟨1, [12, 13]⟩ : Fa)) (a (sl tU _ _ [12, 13]) (by repeat constructor)), rfl⟩) (by decide) ?_
      refine go_pure1 Tk rfl rfl rfl ?_
      refine go_nil ?_
      refine go_env [(0, _), (1, _)] ⟨rfl, rfl, trivial⟩ ?_
      refine go_ret ⟨rfl, rfl⟩ _ _ (res2 (by rfl) (.tmp rfl) (.tmp rfl)) ⟨_, _, rfl, rfl, rfl⟩ (by repeat constructor) (by repeat constructor)
     refine go_bslice Tk rfl rfl rfl rfl rfl rfl rfl rfl (fun _ _ => satA) ?_
     intro b42
     refine go_lit_int (kk := .u32) [12, 13] (by repeat constructor) (by simp) ?_
     refine go_call (law13F 1 _ 2 2) rfl rfl (by rfl) rfl (by repeat constructor) (by repeat constructor) (fun _ v Ps' Os' hq => by obtain ⟨rfl, rfl, rfl⟩ := hq; exact satS (by repeat constructor) (by repeat constructor)) ?_
     rintro _ _ _ ⟨rfl, rfl, rfl⟩
     refine go_call (law13F 1 _ 2 2) rfl rfl (by rfl) rfl (by repeat constructor) (by repeat constructor) (fun _ v Ps' Os' hq => by obtain ⟨rfl, rfl, rfl⟩ := hq; exact satS (by repeat constructor) (by repeat constructor)) ?_
     rintro _ _ _ ⟨rfl, rfl, rfl⟩
     refine go_pure1 Tk rfl rfl rfl ?_
     refine go_bslice Tk rfl rfl rfl rfl rfl rfl rfl rfl (fun _ _ => satA) ?_
     intro bf
     refine go_lit tFa (b := bf) wn14 (by repeat constructor) (fun hp a => ⟨[_, _], _, rfl, tFa_mk (x := (⟨1, [10, 11]⟩ : Fa)) (a (sl tU _ _ [10, 11]) (by repeat constructor)), [_, _], _, rfl, tFa_mk (x := (⟨1, [11, 12]⟩ : Fa)) (a (sl tU _ _ [11, 12]) (by repeat constructor)), [_, _], [], rfl, tFa_mk (x := (⟨1, [12, 13]⟩ : Fa)) (a (sl tU _ _ [12, 13]) (by repeat constructor)), rfl⟩) (by decide) ?_
     refine go_pure1 Tk rfl rfl rfl ?_
     refine go_nil ?_
     refine go_env [(0, _), (1, _)] ⟨rfl, rfl, trivial⟩ ?_
     refine go_ret ⟨rfl, rfl⟩ _ _ (res2 (by rfl) (.tmp rfl) (.tmp rfl)) ⟨_, _, rfl, rfl, rfl⟩ (by repeat constructor) (by repeat constructor)
    refine go_bslice Tk rfl rfl rfl rfl rfl rfl rfl rfl (fun _ _ => satA) ?_
    intro b43
    refine go_lit_int (kk := .u32) [12, 13] (by repeat constructor) (by simp) ?_
    refine go_bslice Tk rfl rfl rfl rfl rfl rfl rfl rfl (fun _ _ => satA) ?_
    intro b44
    refine go_lit_int (kk := .u32) [11, 12] (by repeat constructor) (by simp) ?_
    refine go_call (law13F 1 _ 2 2) rfl rfl (by rfl) rfl (by repeat constructor) (by repeat constructor) (fun _ v Ps' Os' hq => by obtain ⟨rfl, rfl, rfl⟩ := hq; exact satS (by repeat constructor) (by repeat constructor)) ?_
    rintro _ _ _ ⟨rfl, rfl, rfl⟩
    refine go_call (law13F 1 _ 2 2) rfl rfl (by rfl) rfl (by repeat constructor) (by repeat constructor) (fun _ v Ps' Os' hq => by obtain ⟨rfl, rfl, rfl⟩ := hq; exact satS (by repeat constructor) (by repeat constructor)) ?_
    rintro _ _ _ ⟨rfl, rfl, rfl⟩
    refine go_pure1 Tk rfl rfl rfl ?_
    refine go_bslice Tk rfl rfl rfl rfl rfl rfl rfl rfl (fun _ _ => satA) ?_
    intro bf
    refine go_lit tFa (b := bf) wn14 (by repeat constructor) (fun hp a => ⟨[_, _], _, rfl, tFa_mk (x := (⟨1, [10, 11]⟩ : Fa)) (a (sl tU _ _ [10, 11]) (by repeat constructor)), [_, _], _, rfl, tFa_mk (x := (⟨1, [11, 12]⟩ : Fa)) (a (sl tU _ _ [11, 12]) (by repeat constructor)), [_, _], [], rfl, tFa_mk (x := (⟨1, [12, 13]⟩ : Fa)) (a (sl tU _ _ [12, 13]) (by repeat constructor)), rfl⟩) (by decide) ?_
    refine go_pure1 Tk rfl rfl rfl ?_
    refine go_nil ?_
    refine go_env [(0, _), (1, _)] ⟨rfl, rfl, trivial⟩ ?_
    refine go_ret ⟨rfl, rfl⟩ _ _ (res2 (by rfl) (.tmp rfl) (.tmp rfl)) ⟨_, _, rfl, rfl, rfl⟩ (by repeat constructor) (by repeat constructor)
   refine go_two ?_ ?_
   ·skip
    refine go_bslice Tk rfl rfl rfl rfl rfl rfl rfl rfl (fun _ _ => satA) ?_
    intro b45
    refine go_lit_int (kk := .u32) [11, 12] (by repeat constructor) (by simp) ?_
    refine go_two ?_ ?_
    ·skip
     refine go_bslice Tk rfl rfl rfl rfl rfl rfl rfl rfl (fun h => nomatch h) ?_
     intro bs
     refine go_lit tCl (b := bs) [wc14] (by repeat constructor) (fun hp a => ⟨[.int .u32 wc14.h.p, .slice (some ⟨u1, 0, none⟩) wc14.h.a.length 2, .slice (some ⟨u5, 0, none⟩) wc14.b.length 2], [], rfl, tCl_mk (a (sl tTm (some ⟨u1, 0, none⟩) 2 wc14.h.a) (by repeat constructor)) (a (sl tLi (some ⟨u5, 0, none⟩) 2 wc14.b) (by repeat constructor)), rfl⟩) (by simp) ?_
     refine go_two ?_ ?_
     ·skip
      refine go_call (law13F 1 _ 2 2) rfl rfl (by rfl) rfl (by repeat constructor) (by repeat constructor) (fun _ v Ps' Os' hq => by obtain ⟨rfl, rfl, rfl⟩ := hq; exact satS (by repeat constructor) (by repeat constructor)) ?_
      rintro _ _ _ ⟨rfl, rfl, rfl⟩
      refine go_bslice Tk rfl rfl rfl rfl rfl rfl rfl rfl (fun _ _ => satA) ?_
      intro b46
      refine go_lit_int (kk := .u32) [12, 13] (by repeat constructor) (by simp) ?_
      refine go_call (law13F 1 _ 2 2) rfl rfl (by rfl) rfl (by repeat constructor) (by repeat constructor) (fun _ v Ps' Os' hq => by obtain ⟨rfl, rfl, rfl⟩ := hq; exact satS (by repeat constructor) (by repeat constructor)) ?_
      rintro _ _ _ ⟨rfl, rfl, rfl⟩
      refine go_pure1 Tk rfl rfl rfl ?_
      refine go_bslice Tk rfl rfl rfl rfl rfl rfl rfl rfl (fun _ _ => satA) ?_
      intro bf
      refine go_lit tFa (b := bf) wn14 (by repeat constructor) (fun hp a => ⟨[_, _], _, rfl, tFa_mk (x := (⟨1, [10, 11]⟩ : Fa)) (a (sl tU _ _ [10, 11]) (by repeat constructor)), [_, _], _, rfl, tFa_mk (x := (⟨1, [11, 12]⟩ : Fa)) (a (sl tU _ _ [11, 12]) (by repeat constructor)), [_, _], [], rfl, tFa_mk (x := (⟨1, [12, 13]⟩ : Fa)) (a (sl tU _ _ [12, 13]) (by repeat constructor)), rfl⟩) (by decide) ?_
      refine go_pure1 Tk rfl rfl rfl ?_
      refine go_nil ?_
      refine go_env [(0, _), (1, _)] ⟨rfl, rfl, trivial⟩ ?_
      refine go_ret ⟨rfl, rfl⟩ _ _ (res2 (by rfl) (.tmp rfl) (.tmp rfl)) ⟨_, _, rfl, rfl, rfl⟩ (by repeat constructor) (by repeat constructor)
     refine go_bslice Tk rfl rfl rfl rfl rfl rfl rfl rfl (fun _ _ => satA) ?_
     intro b47
     refine go_lit_int (kk := .u32) [12, 13] (by repeat constructor) (by simp) ?_
     refine go_call (law13F 1 _ 2 2) rfl rfl (by rfl) rfl (by repeat constructor) (by repeat constructor) (fun _ v Ps' Os' hq => by obtain ⟨rfl, rfl, rfl⟩ := hq; exact satS (by repeat constructor) (by repeat constructor)) ?_
     rintro _ _ _ ⟨rfl, rfl, rfl⟩
     refine go_call (law13F 1 _ 2 2) rfl rfl (by rfl) rfl (by repeat constructor) (by repeat constructor) (fun _ v Ps' Os' hq => by obtain ⟨rfl, rfl, rfl⟩ := hq; exact satS (by repeat constructor) (by repeat constructor)) ?_
     rintro _ _ _ ⟨rfl, rfl, rfl⟩
     refine go_pure1 Tk rfl rfl rfl ?_
     refine go_bslice Tk rfl rfl rfl rfl rfl rfl rfl rfl (fun _ _ => satA) ?_
     intro bf
     refine go_lit tFa (b := bf) wn14 (by repeat constructor) (fun hp a => ⟨[_, _], _, rfl, tFa_mk (x := (⟨1, [10, 11]⟩ : Fa)) (a (sl tU _ _ [10, 11]) (by repeat constructor)), [_, _], _, rfl, tFa_mk (x := (⟨1, [11, 12]⟩ : Fa)) (a (sl tU _ _ [11, 12]) (by repeat constructor)), [_, _], [], rfl, tFa_mk (x := (⟨1, [12, 13]⟩ : Fa)) (a (sl tU _ _ [12, 13]) (by repeat constructor)), rfl⟩) (by decide) ?_
     refine go_pure1 Tk rfl rfl rfl ?_
     refine go_nil ?_
     refine go_env [(0, _), (1, _)] ⟨rfl, rfl, trivial⟩ ?_
     refine go_ret ⟨rfl, rfl⟩ _ _ (res2 (by rfl) (.tmp rfl) (.tmp rfl)) ⟨_, _, rfl, rfl, rfl⟩ (by repeat constructor) (by repeat constructor)
    refine go_two ?_ ?_
    ·skip
     refine go_call (law13F 1 _ 2 2) rfl rfl (by rfl) rfl (by repeat constructor) (by repeat constructor) (fun _ v Ps' Os' hq => by obtain ⟨rfl, rfl, rfl⟩ := hq; exact satS (by repeat constructor) (by repeat constructor)) ?_
     rintro _ _ _ ⟨rfl, rfl, rfl⟩
     refine go_two ?_ ?_
     ·skip
      refine go_bslice Tk rfl rfl rfl rfl rfl rfl rfl rfl (fun h => nomatch h) ?_
      intro bs
      refine go_lit tCl (b := bs) [wc14] (by repeat constructor) (fun hp a => ⟨[.int .u32 wc14.h.p, .slice (some ⟨u1, 0, none⟩) wc14.h.a.length 2, .slice (some ⟨u5, 0, none⟩) wc14.b.length 2], [], rfl, tCl_mk (a (sl tTm (some ⟨u1, 0, none⟩) 2 wc14.h.a) (by repeat constructor)) (a (sl tLi (some ⟨u5, 0, none⟩) 2 wc14.b) (by repeat constructor)), rfl⟩) (by simp) ?_
      refine go_bslice Tk rfl rfl rfl rfl rfl rfl rfl rfl (fun _ _ => satA) ?_
      intro b48
      refine go_lit_int (kk := .u32) [12, 13] (by repeat constructor) (by simp) ?_
      refine go_call (law13F 1 _ 2 2) rfl rfl (by rfl) rfl (by repeat constructor) (by repeat constructor) (fun _ v Ps' Os' hq => by obtain ⟨rfl, rfl, rfl⟩ := hq; exact satS (by repeat constructor) (by repeat constructor)) ?_
      rintro _ _ _ ⟨rfl, rfl, rfl⟩
      refine go_pure1 Tk rfl rfl rfl ?_
      refine go_bslice Tk rfl rfl rfl rfl rfl rfl rfl rfl (fun _ _ => satA) ?_
      intro bf
      refine go_lit tFa (b := bf) wn14 (by repeat constructor) (fun hp a => ⟨[_, _], _, rfl, tFa_mk (x := (⟨1, [10, 11]⟩ : Fa)) (a (sl tU _ _ [10, 11]) (by repeat constructor)), [_, _], _, rfl, tFa_mk (x := (⟨1, [11, 12]⟩ : Fa)) (a (sl tU _ _ [11, 12]) (by repeat constructor)), [_, _], [], rfl, tFa_mk (x := (⟨1, [12, 13]⟩ : Fa)) (a (sl tU _ _ [12, 13]) (by repeat constructor)), rfl⟩) (by decide) ?_
      refine go_pure1 Tk rfl rfl rfl ?_
      refine go_nil ?_
      refine go_env [(0, _), (1, _)] ⟨rfl, rfl, trivial⟩ ?_
      refine go_ret ⟨rfl, rfl⟩ _ _ (res2 (by rfl) (.tmp rfl) (.tmp rfl)) ⟨_, _, rfl, rfl, rfl⟩ (by repeat constructor) (by repeat constructor)
     refine go_bslice Tk rfl rfl rfl rfl rfl rfl rfl rfl (fun _ _ => satA) ?_
     intro b49
     refine go_lit_int (kk := .u32) [12, 13] (by repeat constructor) (by simp) ?_
     refine go_two ?_ ?_
     ·skip
      refine go_bslice Tk rfl rfl rfl rfl rfl rfl rfl rfl (fun h => nomatch h) ?_
      intro bs
      refine go_lit tCl (b := bs) [wc14] (by repeat constructor) (fun hp a => ⟨[.int .u32 wc14.h.p, .slice (some ⟨u1, 0, none⟩) wc14.h.a.length 2, .slice (some ⟨u5, 0, none⟩) wc14.b.length 2], [], rfl, tCl_mk (a (sl tTm (some ⟨u1, 0, none⟩) 2 wc14.h.a) (by repeat constructor)) (a (sl tLi (some ⟨u5, 0, none⟩) 2 wc14.b) (by repeat constructor)), rfl⟩) (by simp) ?_
      refine go_call (law13F 1 _ 2 2) rfl rfl (by rfl) rfl (by repeat constructor) (by repeat constructor) (fun _ v Ps' Os' hq => by obtain ⟨rfl, rfl, rfl⟩ := hq; exact satS (by repeat constructor) (by repeat constructor)) ?_
      rintro _ _ _ ⟨rfl, rfl, rfl⟩
      refine go_pure1 Tk rfl rfl rfl ?_
      refine go_bslice Tk rfl rfl rfl rfl rfl rfl rfl rfl (fun _ _ => satA) ?_
      intro bf
      refine go_lit tFa (b := bf) wn14 (by repeat constructor) (fun hp a => ⟨[_, _], _, rfl, tFa_mk (x := (⟨1, [10, 11]⟩ : Fa)) (a (sl tU _ _ [10, 11]) (by repeat constructor)), [_, _], _, rfl, tFa_mk (x := (⟨1, [11, 12]⟩ : Fa)) (a (sl tU _ _ [11, 12]) (by repeat constructor)), [_, _], [], rfl, tFa_mk (x := (⟨1, [12, 13]⟩ : Fa)) (a (sl tU _ _ [12, 13]) (by repeat constructor)), rfl⟩) (by decide) ?_
      refine go_pure1 Tk rfl rfl rfl ?_
      refine go_nil ?_
      refine go_env [(0, _), (1, _)] ⟨rfl, rfl, trivial⟩ ?_
      refine go_ret ⟨rfl, rfl⟩ _ _ (res2 (by rfl) (.tmp rfl) (.tmp rfl)) ⟨_, _, rfl, rfl, rfl⟩ (by repeat constructor) (by repeat constructor)
     refine go_call (law13F 1 _ 2 2) rfl rfl (by rfl) rfl (by repeat constructor) (by repeat constructor) (fun _ v Ps' Os' hq => by obtain ⟨rfl, rfl, rfl⟩ := hq; exact satS (by repeat constructor) (by repeat constructor)) ?_
     rintro _ _ _ ⟨rfl, rfl, rfl⟩
     refine go_two ?_ ?_
     ·skip
      refine go_bslice Tk rfl rfl rfl rfl rfl rfl rfl rfl (fun h => nomatch h) ?_
      intro bs
      refine go_lit tCl (b := bs) [wc14] (by repeat constructor) (fun hp a => ⟨[.int .u32 wc14.h.p, .slice (some ⟨u1, 0, none⟩) wc14.h.a.length 2, .slice (some ⟨u5, 0, none⟩) wc14.b.length 2], [], rfl, tCl_mk (a (sl tTm (some ⟨u1, 0, none⟩) 2 wc14.h.a) (by repeat constructor)) (a (sl tLi (some ⟨u5, 0, none⟩) 2 wc14.b) (by repeat constructor)), rfl⟩) (by simp) ?_
      refine go_pure1 Tk rfl rfl rfl ?_
      refine go_bslice Tk rfl rfl rfl rfl rfl rfl rfl rfl (fun _ _ => satA) ?_
      intro bf
      refine go_lit tFa (b := bf) wn14 (by repeat constructor) (fun hp a => ⟨[_, _], _, rfl, tFa_mk (x := (⟨1, [10, 11]⟩ : Fa)) (a (sl tU _ _ [10, 11]) (by repeat constructor)), [_, _], _, rfl, tFa_mk (x := (⟨1, [11, 12]⟩ : Fa)) (a (sl tU _ _ [11, 12]) (by repeat constructor)), [_, _], [], rfl, tFa_mk (x := (⟨1, [12, 13]⟩ : Fa)) (a (sl tU _ _ [12, 13]) (by repeat constructor)), rfl⟩) (by decide) ?_
      refine go_pure1 Tk rfl rfl rfl ?_
      refine go_nil ?_
      refine go_env [(0, _), (1, _)] ⟨rfl, rfl, trivial⟩ ?_
      refine go_ret ⟨rfl, rfl⟩ _ _ (res2 (by rfl) (.tmp rfl) (.tmp rfl)) ⟨_, _, rfl, rfl, rfl⟩ (by repeat constructor) (by repeat constructor)
     refine go_bslice Tk rfl rfl rfl rfl rfl rfl rfl rfl (fun _ _ => satA) ?_
     intro bf
     refine go_lit tFa (b := bf) wn14 (by repeat constructor) (fun hp a => ⟨[_, _], _, rfl, tFa_mk (x := (⟨1, [10, 11]⟩ : Fa)) (a (sl tU _ _ [10, 11]) (by repeat constructor)), [_, _], _, rfl, tFa_mk (x := (⟨1, [11, 12]⟩ : Fa)) (a (sl tU _ _ [11, 12]) (by repeat constructor)), [_, _], [], rfl, tFa_mk (x := (⟨1, [12, 13]⟩ : Fa)) (a (sl tU _ _ [12, 13]) (by repeat constructor)), rfl⟩) (by decide) ?_
     refine go_bslice Tk rfl rfl rfl rfl rfl rfl rfl rfl (fun h => nomatch h) ?_
     intro bs
     refine go_lit tCl (b := bs) [wc14] (by repeat constructor) (fun hp a => ⟨[.int .u32 wc14.h.p, .slice (some ⟨u1, 0, none⟩) wc14.h.a.length 2, .slice (some ⟨u5, 0, none⟩) wc14.b.length 2], [], rfl, tCl_mk (a (sl tTm (some ⟨u1, 0, none⟩) 2 wc14.h.a) (by repeat constructor)) (a (sl tLi (some ⟨u5, 0, none⟩) 2 wc14.b) (by repeat constructor)), rfl⟩) (by simp) ?_
     iterate 2 refine go_pure1 Tk rfl rfl rfl ?_
     refine go_nil ?_
     refine go_env [(0, _), (1, _)] ⟨rfl, rfl, trivial⟩ ?_
     refine go_ret ⟨rfl, rfl⟩ _ _ (res2 (by rfl) (.tmp rfl) (.tmp rfl)) ⟨_, _, rfl, rfl, rfl⟩ (by repeat constructor) (by repeat constructor)
    refine go_bslice Tk rfl rfl rfl rfl rfl rfl rfl rfl (fun _ _ => satA) ?_
    intro b50
    refine go_lit_int (kk := .u32) [12, 13] (by repeat constructor) (by simp) ?_
    refine go_two ?_ ?_
    ·skip
     refine go_bslice Tk rfl rfl rfl rfl rfl rfl rfl rfl (fun h => nomatch h) ?_
     intro bs
     refine go_lit tCl (b := bs) [wc14] (by repeat constructor) (fun hp a => ⟨[.int .u32 wc14.h.p, .slice (some ⟨u1, 0, none⟩) wc14.h.a.length 2, .slice (some ⟨u5, 0, none⟩) wc14.b.length 2], [], rfl, tCl_mk (a (sl tTm (some ⟨u1, 0, none⟩) 2 wc14.h.a) (by repeat constructor)) (a (sl tLi (some ⟨u5, 0, none⟩) 2 wc14.b) (by repeat constructor)), rfl⟩) (by simp) ?_
     refine go_call (law13F 1 _ 2 2) rfl rfl (by rfl) rfl (by repeat constructor) (by repeat constructor) (fun _ v Ps' Os' hq => by obtain ⟨rfl, rfl, rfl⟩ := hq; exact satS (by repeat constructor) (by repeat constructor)) ?_
     rintro _ _ _ ⟨rfl, rfl, rfl⟩
     refine go_call (law13F 1 _ 2 2) rfl rfl (by rfl) rfl (by repeat constructor) (by repeat constructor) (fun _ v Ps' Os' hq => by obtain ⟨rfl, rfl, rfl⟩ := hq; exact satS (by repeat constructor) (by repeat constructor)) ?_
     rintro _ _ _ ⟨rfl, rfl, rfl⟩
     refine go_pure1 Tk rfl rfl rfl ?_
     refine go_bslice Tk rfl rfl rfl rfl rfl rfl rfl rfl (fun _ _ => satA) ?_
     intro bf
     refine go_lit tFa (b := bf) wn14 (by repeat constructor) (fun hp a => ⟨[_, _], _, rfl, tFa_mk (x := (⟨1, [10, 11]⟩ : Fa)) (a (sl tU _ _ [10, 11]) (by repeat constructor)), [_, _], _, rfl, tFa_mk (x := (⟨1, [11, 12]⟩ : Fa)) (a (sl tU _ _ [11, 12]) (by repeat constructor)), [_, _], [], rfl, tFa_mk (x := (⟨1, [12, 13]⟩ : Fa)) (a (sl tU _ _ [12, 13]) (by repeat constructor)), rfl⟩) (by decide) ?_
     refine go_pure1 Tk rfl rfl rfl ?_
     refine go_nil ?_
     refine go_env [(0, _), (1, _)] ⟨rfl, rfl, trivial⟩ ?_
     refine go_ret ⟨rfl, rfl⟩ _ _ (res2 (by rfl) (.tmp rfl) (.tmp rfl)) ⟨_, _, rfl, rfl, rfl⟩ (by repeat constructor) (by repeat constructor)
    refine go_call (law13F 1 _ 2 2) rfl rfl (by rfl) rfl (by repeat constructor) (by repeat constructor) (fun _ v Ps' Os' hq => by obtain ⟨rfl, rfl, rfl⟩ := hq; exact satS (by repeat constructor) (by repeat constructor)) ?_
    rintro _ _ _ ⟨rfl, rfl, rfl⟩
    refine go_two ?_ ?_
    ·skip
     refine go_bslice Tk rfl rfl rfl rfl rfl rfl rfl rfl (fun h => nomatch h) ?_
     intro bs
     refine go_lit tCl (b := bs) [wc14] (by repeat constructor) (fun hp a => ⟨[.int .u32 wc14.h.p, .slice (some ⟨u1, 0, none⟩) wc14.h.a.length 2, .slice (some ⟨u5, 0, none⟩) wc14.b.length 2], [], rfl, tCl_mk (a (sl tTm (some ⟨u1, 0, none⟩) 2 wc14.h.a) (by repeat constructor)) (a (sl tLi (some ⟨u5, 0, none⟩) 2 wc14.b) (by repeat constructor)), rfl⟩) (by simp) ?_
     refine go_call (law13F 1 _ 2 2) rfl rfl (by rfl) rfl (by repeat constructor) (by repeat constructor) (fun _ v Ps' Os' hq => by obtain ⟨rfl, rfl, rfl⟩ := hq; exact satS (by repeat constructor) (by repeat constructor)) ?_
     rintro _ _ _ ⟨rfl, rfl, rfl⟩
     refine go_pure1 Tk rfl rfl rfl ?_
     refine go_bslice Tk rfl rfl rfl rfl rfl rfl rfl rfl (fun _ _ => satA) ?_
     intro bf
     refine go_lit tFa (b := bf) wn14 (by repeat constructor) (fun hp a => ⟨[_, _], _, rfl, tFa_mk (x := (⟨1, [10, 11]⟩ : Fa)) (a (sl tU _ _ [10, 11]) (by repeat constructor)), [_, _], _, rfl, tFa_mk (x := (⟨1, [11, 12]⟩ : Fa)) (a (sl tU _ _ [11, 12]) (by repeat constructor)), [_, _], [], rfl, tFa_mk (x := (⟨1, [12, 13]⟩ : Fa)) (a (sl tU _ _ [12, 13]) (by repeat constructor)), rfl⟩) (by decide) ?_
     refine go_pure1 Tk rfl rfl rfl ?_
     refine go_nil ?_
     refine go_env [(0, _), (1, _)] ⟨rfl, rfl, trivial⟩ ?_
     refine go_ret ⟨rfl, rfl⟩ _ _ (res2 (by rfl) (.tmp rfl) (.tmp rfl)) ⟨_, _, rfl, rfl, rfl⟩ (by repeat constructor) (by repeat constructor)
    refine go_call (law13F 1 _ 2 2) rfl rfl (by rfl) rfl (by repeat constructor) (by repeat constructor) (fun _ v Ps' Os' hq => by obtain ⟨rfl, rfl, rfl⟩ := hq; exact satS (by repeat constructor) (by repeat constructor)) ?_
    rintro _ _ _ ⟨rfl, rfl, rfl⟩
    refine go_two ?_ ?_
    ·skip
     refine go_bslice Tk rfl rfl rfl rfl rfl rfl rfl rfl (fun h => nomatch h) ?_
     intro bs
     refine go_lit tCl (b := bs) [wc14] (by repeat constructor) (fun hp a => ⟨[.int .u32 wc14.h.p, .slice (some ⟨u1, 0, none⟩) wc14.h.a.length 2, .slice (some ⟨u5, 0, none⟩) wc14.b.length 2], [], rfl, tCl_mk (a (sl tTm (some ⟨u1, 0, none⟩) 2 wc14.h.a) (by repeat constructor)) (a (sl tLi (some ⟨u5, 0, none⟩) 2 wc14.b) (by repeat constructor)), rfl⟩) (by simp) ?_
     refine go_pure1 Tk rfl rfl rfl ?_
     refine go_bslice Tk rfl rfl rfl rfl rfl rfl rfl rfl (fun _ _ => satA) ?_
     intro bf
     refine go_lit tFa (b := bf) wn14 (by repeat constructor) (fun hp a => ⟨[_, _], _, rfl, tFa_mk (x := (⟨1, [10, 11]⟩ : Fa)) (a (sl tU _ _ [10, 11]) (by repeat constructor)), [_, _], _, rfl, tFa_mk (x := (⟨1, [11, 12]⟩ : Fa)) (a (sl tU _ _ [11, 12]) (by repeat constructor)), [_, _], [], rfl, tFa_mk (x := (⟨1, [12, 13]⟩ : Fa)) (a (sl tU _ _ [12, 13]) (by repeat constructor)), rfl⟩) (by decide) ?_
     refine go_pure1 Tk rfl rfl rfl ?_
     refine go_nil ?_
     refine go_env [(0, _), (1, _)] ⟨rfl, rfl, trivial⟩ ?_
     refine go_ret ⟨rfl, rfl⟩ _ _ (res2 (by rfl) (.tmp rfl) (.tmp rfl)) ⟨_, _, rfl, rfl, rfl⟩ (by repeat constructor) (by repeat constructor)
    refine go_bslice Tk rfl rfl rfl rfl rfl rfl rfl rfl (fun _ _ => satA) ?_
    intro bf
    refine go_lit tFa (b := bf) wn14 (by repeat constructor) (fun hp a => ⟨[_, _], _, rfl, tFa_mk (x := (⟨1, [10, 11]⟩ : Fa)) (a (sl tU _ _ [10, 11]) (by repeat constructor)), [_, _], _, rfl, tFa_mk (x := (⟨1, [11, 12]⟩ : Fa)) (a (sl tU _ _ [11, 12]) (by repeat constructor)), [_, _], [], rfl, tFa_mk (x := (⟨1, [12, 13]⟩ : Fa)) (a (sl tU _ _ [12, 13]) (by repeat constructor)), rfl⟩) (by decide) ?_
    refine go_bslice Tk rfl rfl rfl rfl rfl rfl rfl rfl (fun h => nomatch h) ?_
    intro bs
    refine go_lit tCl (b := bs) [wc14] (by repeat constructor) (fun hp a => ⟨[.int .u32 wc14.h.p, .slice (some ⟨u1, 0, none⟩) wc14.h.a.length 2, .slice (some ⟨u5, 0, none⟩) wc14.b.length 2], [], rfl, tCl_mk (a (sl tTm (some ⟨u1, 0, none⟩) 2 wc14.h.a) (by repeat constructor)) (a (sl tLi (some ⟨u5, 0, none⟩) 2 wc14.b) (by repeat constructor)), rfl⟩) (by simp) ?_
    iterate 2 refine go_pure1 Tk rfl rfl rfl ?_
    refine go_nil ?_
    refine go_env [(0, _), (1, _)] ⟨rfl, rfl, trivial⟩ ?_
    refine go_ret ⟨rfl, rfl⟩ _ _ (res2 (by rfl) (.tmp rfl) (.tmp rfl)) ⟨_, _, rfl, rfl, rfl⟩ (by repeat constructor) (by repeat constructor)
   refine go_bslice Tk rfl rfl rfl rfl rfl rfl rfl rfl (fun _ _ => satA) ?_
   intro b51
   refine go_lit_int (kk := .u32) [12, 13] (by repeat constructor) (by simp) ?_
   refine go_two ?_ ?_
   ·skip
    refine go_bslice Tk rfl rfl rfl rfl rfl rfl rfl rfl (fun h => nomatch h) ?_
    intro bs
    refine go_lit tCl (b := bs) [wc14] (by repeat constructor) (fun hp a => ⟨[.int .u32 wc14.h.p, .slice (some ⟨u1, 0, none⟩) wc14.h.a.length 2, .slice (some ⟨u5, 0, none⟩) wc14.b.length 2], [], rfl, tCl_mk (a (sl tTm (some ⟨u1, 0, none⟩) 2 wc14.h.a) (by repeat constructor)) (a (sl tLi (some ⟨u5, 0, none⟩) 2 wc14.b) (by repeat constructor)), rfl⟩) (by simp) ?_
    refine go_bslice Tk rfl rfl rfl rfl rfl rfl rfl rfl (fun _ _ => satA) ?_
    intro b52
    refine go_lit_int (kk := .u32) [11, 12] (by repeat constructor) (by simp) ?_
    refine go_call (law13F 1 _ 2 2) rfl rfl (by rfl) rfl (by repeat constructor) (by repeat constructor) (fun _ v Ps' Os' hq => by obtain ⟨rfl, rfl, rfl⟩ := hq; exact satS (by repeat constructor) (by repeat constructor)) ?_
    rintro _ _ _ ⟨rfl, rfl, rfl⟩
    refine go_call (law13F 1 _ 2 2) rfl rfl (by rfl) rfl (by repeat constructor) (by repeat constructor) (fun _ v Ps' Os' hq => by obtain ⟨rfl, rfl, rfl⟩ := hq; exact satS (by repeat constructor) (by repeat constructor)) ?_
    rintro _ _ _ ⟨rfl, rfl, rfl⟩
    refine go_pure1 Tk rfl rfl rfl ?_
    refine go_bslice Tk rfl rfl rfl rfl rfl rfl rfl rfl (fun _ _ => satA) ?_
    intro bf
    refine go_lit tFa (b := bf) wn14 (by repeat constructor) (fun hp a => ⟨[_, _], _, rfl, tFa_mk (x := (⟨1, [10, 11]⟩ : Fa)) (a (sl tU _ _ [10, 11]) (by repeat constructor)), [_, _], _, rfl, tFa_mk (x := (⟨1, [11, 12]⟩ : Fa)) (a (sl tU _ _ [11, 12]) (by repeat constructor)), [_, _], [], rfl, tFa_mk (x := (⟨1, [12, 13]⟩ : Fa)) (a (sl tU _ _ [12, 13]) (by repeat constructor)), rfl⟩) (by decide) ?_
    refine go_pure1 Tk rfl rfl rfl ?_
    refine go_nil ?_
    refine go_env [(0, _), (1, _)] ⟨rfl, rfl, trivial⟩ ?_
    refine go_ret ⟨rfl, rfl⟩ _ _ (res2 (by rfl) (.tmp rfl) (.tmp rfl)) ⟨_, _, rfl, rfl, rfl⟩ (by repeat constructor) (by repeat constructor)
   refine go_bslice Tk rfl rfl rfl rfl rfl rfl rfl rfl (fun _ _ => satA) ?_
   intro b53
   refine go_lit_int (kk := .u32) [11, 12] (by repeat constructor) (by simp) ?_
   refine go_two ?_ ?_
   ·skip
    refine go_bslice Tk rfl rfl rfl rfl rfl rfl rfl rfl (fun h => nomatch h) ?_
    intro bs
    refine go_lit tCl (b := bs) [wc14] (by repeat constructor) (fun hp a => ⟨[.int .u32 wc14.h.p, .slice (some ⟨u1, 0, none⟩) wc14.h.a.length 2, .slice (some ⟨u5, 0, none⟩) wc14.b.length 2], [], rfl, tCl_mk (a (sl tTm (some ⟨u1, 0, none⟩) 2 wc14.h.a) (by repeat constructor)) (a (sl tLi (some ⟨u5, 0, none⟩) 2 wc14.b) (by repeat constructor)), rfl⟩) (by simp) ?_
    refine go_call (law13F 1 _ 2 2) rfl rfl (by rfl) rfl (by repeat constructor) (by repeat constructor) (fun _ v Ps' Os' hq => by obtain ⟨rfl, rfl, rfl⟩ := hq; exact satS (by repeat constructor) (by repeat constructor)) ?_
    rintro _ _ _ ⟨rfl, rfl, rfl⟩
    refine go_call (law13F 1 _ 2 2) rfl rfl (by rfl) rfl (by repeat constructor) (by repeat constructor) (fun _ v Ps' Os' hq => by obtain ⟨rfl, rfl, rfl⟩ := hq; exact satS (by repeat constructor) (by repeat constructor)) ?_
    rintro _ _ _ ⟨rfl, rfl, rfl⟩
    refine go_pure1 Tk rfl rfl rfl ?_
    refine go_bslice Tk rfl rfl rfl rfl rfl rfl rfl rfl (fun _ _ => satA) ?_
    intro bf
    refine go_lit tFa (b := bf) wn14 (by repeat constructor) (fun hp a => ⟨[_, _], _, rfl, tFa_mk (x := (⟨1, [10, 11]⟩ : Fa)) (a (sl tU _ _ [10, 11]) (by repeat constructor)), [_, _], _, rfl, tFa_mk (x := (⟨1, [11, 12]⟩ : Fa)) (a (sl tU _ _ [11, 12]) (by repeat constructor)), [_, _], [], rfl, tFa_mk (x := (⟨1, [12, 13]⟩ : Fa)) (a (sl tU _ _ [12, 13]) (by repeat constructor)), rfl⟩) (by decide) ?_
    refine go_pure1 Tk rfl rfl rfl ?_
    refine go_nil ?_
    refine go_env [(0, _), (1, _)] ⟨rfl, rfl, trivial⟩ ?_
    refine go_ret ⟨rfl, rfl⟩ _ _ (res2 (by rfl) (.tmp rfl) (.tmp rfl)) ⟨_, _, rfl, rfl, rfl⟩ (by repeat constructor) (by repeat constructor)
   refine go_call (law13F 1 _ 2 2) rfl rfl (by rfl) rfl (by repeat constructor) (by repeat constructor) (fun _ v Ps' Os' hq => by obtain ⟨rfl, rfl, rfl⟩ := hq; exact satS (by repeat constructor) (by repeat constructor)) ?_
   rintro _ _ _ ⟨rfl, rfl, rfl⟩
   refine go_two ?_ ?_
   ·skip
    refine go_bslice Tk rfl rfl rfl rfl rfl rfl rfl rfl (fun h => nomatch h) ?_
    intro bs
    refine go_lit tCl (b := bs) [wc14] (by repeat constructor) (fun hp a => ⟨[.int .u32 wc14.h.p, .slice (some ⟨u1, 0, none⟩) wc14.h.a.length 2, .slice (some ⟨u5, 0, none⟩) wc14.b.length 2], [], rfl, tCl_mk (a (sl tTm (some ⟨u1, 0, none⟩) 2 wc14.h.a) (by repeat constructor)) (a (sl tLi (some ⟨u5, 0, none⟩) 2 wc14.b) (by repeat constructor)), rfl⟩) (by simp) ?_
    refine go_call (law13F 1 _ 2 2) rfl rfl (by rfl) rfl (by repeat constructor) (by repeat constructor) (fun _ v Ps' Os' hq => by obtain ⟨rfl, rfl, rfl⟩ := hq; exact satS (by repeat constructor) (by repeat constructor)) ?_
    rintro _ _ _ ⟨rfl, rfl, rfl⟩
    refine go_pure1 Tk rfl rfl rfl ?_
    refine go_bslice Tk rfl rfl rfl rfl rfl rfl rfl rfl (fun _ _ => satA) ?_
    intro bf
    refine go_lit tFa (b := bf) wn14 (by repeat constructor) (fun hp a => ⟨[_, _], _, rfl, tFa_mk (x := (⟨1, [10, 11]⟩ : Fa)) (a (sl tU _ _ [10, 11]) (by repeat constructor)), [_, _], _, rfl, tFa_mk (x := (⟨1, [11, 12]⟩ : Fa)) (a (sl tU _ _ [11, 12]) (by repeat constructor)), [_, _], [], rfl, tFa_mk (x := (⟨1, [12, 13]⟩ : Fa)) (a (sl tU _ _ [12, 13]) (by repeat constructor)), rfl⟩) (by decide) ?_
    refine go_pure1 Tk rfl rfl rfl ?_
    refine go_nil ?_
    refine go_env [(0, _), (1, _)] ⟨rfl, rfl, trivial⟩ ?_
    refine go_ret ⟨rfl, rfl⟩ _ _ (res2 (by rfl) (.tmp rfl) (.tmp rfl)) ⟨_, _, rfl, rfl, rfl⟩ (by repeat constructor) (by repeat constructor)
   refine go_call (law13F 1 _ 2 2) rfl rfl (by rfl) rfl (by repeat constructor) (by repeat constructor) (fun _ v Ps' Os' hq => by obtain ⟨rfl, rfl, rfl⟩ := hq; exact satS (by repeat constructor) (by repeat constructor)) ?_
   rintro _ _ _ ⟨rfl, rfl, rfl⟩
   refine go_two ?_ ?_
   ·skip
    refine go_bslice Tk rfl rfl rfl rfl rfl rfl rfl rfl (fun h => nomatch h) ?_
    intro bs
    refine go_lit tCl (b := bs) [wc14] (by repeat constructor) (fun hp a => ⟨[.int .u32 wc14.h.p, .slice (some ⟨u1, 0, none⟩) wc14.h.a.length 2, .slice (some ⟨u5, 0, none⟩) wc14.b.length 2], [], rfl, tCl_mk (a (sl tTm (some ⟨u1, 0, none⟩) 2 wc14.h.a) (by repeat constructor)) (a (sl tLi (some ⟨u5, 0, none⟩) 2 wc14.b) (by repeat constructor)), rfl⟩) (by simp) ?_
    refine go_pure1 Tk rfl rfl rfl ?_
    refine go_bslice Tk rfl rfl rfl rfl rfl rfl rfl rfl (fun _ _ => satA) ?_
    intro bf
    refine go_lit tFa (b := bf) wn14 (by repeat constructor) (fun hp a => ⟨[_, _], _, rfl, tFa_mk (x := (⟨1, [10, 11]⟩ : Fa)) (a (sl tU _ _ [10, 11]) (by repeat constructor)), [_, _], _, rfl, tFa_mk (x := (⟨1, [11, 12]⟩ : Fa)) (a (sl tU _ _ [11, 12]) (by repeat constructor)), [_, _], [], rfl, tFa_mk (x := (⟨1, [12, 13]⟩ : Fa)) (a (sl tU _ _ [12, 13]) (by repeat constructor)), rfl⟩) (by decide) ?_
    refine go_pure1 Tk rfl rfl rfl ?_
    refine go_nil ?_
    refine go_env [(0, _), (1, _)] ⟨rfl, rfl, trivial⟩ ?_
    refine go_ret ⟨rfl, rfl⟩ _ _ (res2 (by rfl) (.tmp rfl) (.tmp rfl)) ⟨_, _, rfl, rfl, rfl⟩ (by repeat constructor) (by repeat constructor)
   refine go_bslice Tk rfl rfl rfl rfl rfl rfl rfl rfl (fun _ _ => satA) ?_
   intro bf
   refine go_lit tFa (b := bf) wn14 (by repeat constructor) (fun hp a => ⟨[_, _], _, rfl, tFa_mk (x := (⟨1, [10, 11]⟩ : Fa)) (a (sl tU _ _ [10, 11]) (by repeat constructor)), [_, _], _, rfl, tFa_mk (x := (⟨1, [11, 12]⟩ : Fa)) (a (sl tU _ _ [11, 12]) (by repeat constructor)), [_, _], [], rfl, tFa_mk (x := (⟨1, [12, 13]⟩ : Fa)) (a (sl tU _ _ [12, 13]) (by repeat constructor)), rfl⟩) (by decide) ?_
   refine go_bslice Tk rfl rfl rfl rfl rfl rfl rfl rfl (fun h => nomatch h) ?_
   intro bs
   refine go_lit tCl (b := bs) [wc14] (by repeat constructor) (fun hp a => ⟨[.int .u32 wc14.h.p, .slice (some ⟨u1, 0, none⟩) wc14.h.a.length 2, .slice (some ⟨u5, 0, none⟩) wc14.b.length 2], [], rfl, tCl_mk (a (sl tTm (some ⟨u1, 0, none⟩) 2 wc14.h.a) (by repeat constructor)) (a (sl tLi (some ⟨u5, 0, none⟩) 2 wc14.b) (by repeat constructor)), rfl⟩) (by simp) ?_
   iterate 2 refine go_pure1 Tk rfl rfl rfl ?_
   refine go_nil ?_
   refine go_env [(0, _), (1, _)] ⟨rfl, rfl, trivial⟩ ?_
   refine go_ret ⟨rfl, rfl⟩ _ _ (res2 (by rfl) (.tmp rfl) (.tmp rfl)) ⟨_, _, rfl, rfl, rfl⟩ (by repeat constructor) (by repeat constructor)
  refine go_two ?_ ?_
  ·skip
   refine go_bslice Tk rfl rfl rfl rfl rfl rfl rfl rfl (fun _ _ => satA) ?_
   intro b54
   refine go_lit_int (kk := .u32) [11, 12] (by repeat constructor) (by simp) ?_
   refine go_two ?_ ?_
   ·skip
    refine go_bslice Tk rfl rfl rfl rfl rfl rfl rfl rfl (fun h => nomatch h) ?_
    intro bs
    refine go_lit tCl (b := bs) [wc14] (by repeat constructor) (fun hp a => ⟨[.int .u32 wc14.h.p, .slice (some ⟨u1, 0, none⟩) wc14.h.a.length 2, .slice (some ⟨u5, 0, none⟩) wc14.b.length 2], [], rfl, tCl_mk (a (sl tTm (some ⟨u1, 0, none⟩) 2 wc14.h.a) (by repeat constructor)) (a (sl tLi (some ⟨u5, 0, none⟩) 2 wc14.b) (by repeat constructor)), rfl⟩) (by simp) ?_
    refine go_two ?_ ?_
    ·skip
     refine go_call (law13F 1 _ 2 2) rfl rfl (by rfl) rfl (by repeat constructor) (by repeat constructor) (fun _ v Ps' Os' hq => by obtain ⟨rfl, rfl, rfl⟩ := hq; exact satS (by repeat constructor) (by repeat constructor)) ?_
     rintro _ _ _ ⟨rfl, rfl, rfl⟩
     refine go_two ?_ ?_
     ·skip
      refine go_call (law13F 1 _ 2 2) rfl rfl (by rfl) rfl (by repeat constructor) (by repeat constructor) (fun _ v Ps' Os' hq => by obtain ⟨rfl, rfl, rfl⟩ := hq; exact satS (by repeat constructor) (by repeat constructor)) ?_
      rintro _ _ _ ⟨rfl, rfl, rfl⟩
      refine go_bslice Tk rfl rfl rfl rfl rfl rfl rfl rfl (fun _ _ => satA) ?_
      intro b55
      refine go_lit_int (kk := .u32) [12, 13] (by repeat constructor) (by simp) ?_
      refine go_call (law13F 1 _ 2 2) rfl rfl (by rfl) rfl (by repeat constructor) (by repeat constructor) (fun _ v Ps' Os' hq => by obtain ⟨rfl, rfl, rfl⟩ := hq; exact satS (by repeat constructor) (by repeat constructor)) ?_
      rintro _ _ _ ⟨rfl, rfl, rfl⟩
      refine go_pure1 Tk rfl rfl rfl ?_
      refine go_bslice Tk rfl rfl rfl rfl rfl rfl rfl rfl (fun _ _ => satA) ?_
      intro bf
      refine go_lit tFa (b := bf) wn14 (by repeat constructor) (fun hp a => ⟨[_, _], _, rfl, tFa_mk (x := (⟨1, [10, 11]⟩ : Fa)) (a (sl tU _ _ [10, 11]) (by repeat constructor)), [_, _], _, rfl, tFa_mk (x := (⟨1, [11, 12]⟩ : Fa)) (a (sl tU _ _ [11, 12]) (by repeat constructor)), [_, _], [], rfl, tFa_mk (x := (⟨1, [12, 13]⟩ : Fa)) (a (sl tU _ _ [12, 13]) (by repeat constructor)), rfl⟩) (by decide) ?_
      refine go_pure1 Tk rfl rfl rfl ?_
      refine go_nil ?_
      refine go_env [(0, _), (1, _)] ⟨rfl, rfl, trivial⟩ ?_
      refine go_ret ⟨rfl, rfl⟩ _ _ (res2 (by rfl) (.tmp rfl) (.tmp rfl)) ⟨_, _, rfl, rfl, rfl⟩ (by repeat constructor) (by repeat constructor)
     refine go_bslice Tk rfl rfl rfl rfl rfl rfl rfl rfl (fun _ _ => satA) ?_
     intro b56
     refine go_lit_int (kk := .u32) [12, 13] (by repeat constructor) (by simp) ?_
     refine go_call (law13F 1 _ 2 2) rfl rfl (by rfl) rfl (by repeat constructor) (by repeat constructor) (fun _ v Ps' Os' hq => by obtain ⟨rfl, rfl, rfl⟩ := hq; exact satS (by repeat constructor) (by repeat constructor)) ?_
     rintro _ _ _ ⟨rfl, rfl, rfl⟩
     refine go_call (law13F 1 _ 2 2) rfl rfl (by rfl) rfl (by repeat constructor) (by repeat constructor) (fun _ v Ps' Os' hq => by obtain ⟨rfl, rfl, rfl⟩ := hq; exact satS (by repeat constructor) (by repeat constructor)) ?_
     rintro _ _ _ ⟨rfl, rfl, rfl⟩
     refine go_pure1 Tk rfl rfl rfl ?_
     refine go_bslice Tk rfl rfl rfl rfl rfl rfl rfl rfl (fun _ _ => satA) ?_
     intro bf
     refine go_lit tFa (b := bf) wn14 (by repeat constructor) (fun hp a => ⟨[_, _], _, rfl, tFa_mk (x := (⟨1, [10, 11]⟩ : Fa)) (a (sl tU _ _ [10, 11]) (by repeat constructor)), [_, _], _, rfl, tFa_mk (x := (⟨1, [11, 12]⟩ : Fa)) (a (sl tU _ _ [11, 12]) (by repeat constructor)), [_, _], [], rfl, tFa_mk (x := (⟨1, [12, 13]⟩ : Fa)) (a (sl tU _ _ [12, 13]) (by repeat constructor)), rfl⟩) (by decide) ?_
     refine go_pure1 Tk rfl rfl rfl ?_
     refine go_nil ?_
     refine go_env [(0, _), (1, _)] ⟨rfl, rfl, trivial⟩ ?_
     refine go_ret ⟨rfl, rfl⟩ _ _ (res2 (by rfl) (.tmp rfl) (.tmp rfl)) ⟨_, _, rfl, rfl, rfl⟩ (by repeat constructor) (by repeat constructor)
    refine go_bslice Tk rfl rfl rfl rfl rfl rfl rfl rfl (fun _ _ => satA) ?_
    intro b57
    refine go_lit_int (kk := .u32) [12, 13] (by repeat constructor) (by simp) ?_
    refine go_call (law13F 1 _ 2 2) rfl rfl (by rfl) rfl (by repeat constructor) (by repeat constructor) (fun _ v Ps' Os' hq => by obtain ⟨rfl, rfl, rfl⟩ := hq; exact satS (by repeat constructor) (by repeat constructor)) ?_
    rintro _ _ _ ⟨rfl, rfl, rfl⟩
    refine go_call (law13F 1 _ 2 2) rfl rfl (by rfl) rfl (by repeat constructor) (by repeat constructor) (fun _ v Ps' Os' hq => by obtain ⟨rfl, rfl, rfl⟩ := hq; exact satS (by repeat constructor) (by repeat constructor)) ?_
    rintro _ _ _ ⟨rfl, rfl, rfl⟩
    refine go_call (law13F 1 _ 2 2) rfl rfl (by rfl) rfl (by repeat constructor) (by repeat constructor) (fun _ v Ps' Os' hq => by obtain ⟨rfl, rfl, rfl⟩ := hq; exact satS (by repeat constructor) (by repeat constructor)) ?_
    rintro _ _ _ ⟨rfl, rfl, rfl⟩
    refine go_pure1 Tk rfl rfl rfl ?_
    refine go_bslice Tk rfl rfl rfl rfl rfl rfl rfl rfl (fun _ _ => satA) ?_
    intro bf
    refine go_lit tFa (b := bf) wn14 (by repeat constructor) (fun hp a => ⟨[_, _], _, rfl, tFa_mk (x := (⟨1, [10, 11]⟩ : Fa)) (a (sl tU _ _ [10, 11]) (by repeat constructor)), [_, _], _, rfl, tFa_mk (x := (⟨1, [11, 12]⟩ : Fa)) (a (sl tU _ _ [11, 12]) (by repeat constructor)), [_, _], [], rfl, tFa_mk (x := (⟨1, [12, 13]⟩ : Fa)) (a (sl tU _ _ [12, 13]) (by repeat constructor)), rfl⟩) (by decide) ?_
    refine go_pure1 Tk rfl rfl rfl ?_
    refine go_nil ?_
    refine go_env [(0, _), (1, _)] ⟨rfl, rfl, trivial⟩ ?_
    refine go_ret ⟨rfl, rfl⟩ _ _ (res2 (by rfl) (.tmp rfl) (.tmp rfl)) ⟨_, _, rfl, rfl, rfl⟩ (by repeat constructor) (by repeat constructor)
   refine go_two ?_ ?_
   ·skip
    refine go_call (law13F 1 _ 2 2) rfl rfl (by rfl) rfl (by repeat constructor) (by repeat constructor) (fun _ v Ps' Os' hq => by obtain ⟨rfl, rfl, rfl⟩ := hq; exact satS (by repeat constructor) (by repeat constructor)) ?_
    rintro _ _ _ ⟨rfl, rfl, rfl⟩
    refine go_two ?_ ?_
    ·skip
     refine go_bslice Tk rfl rfl rfl rfl rfl rfl rfl rfl (fun h => nomatch h) ?_
     intro bs
     refine go_lit tCl (b := bs) [wc14] (by repeat constructor) (fun hp a => ⟨[.int .u32 wc14.h.p, .slice (some ⟨u1, 0, none⟩) wc14.h.a.length 2, .slice (some ⟨u5, 0, none⟩) wc14.b.length 2], [], rfl, tCl_mk (a (sl tTm (some ⟨u1, 0, none⟩) 2 wc14.h.a) (by repeat constructor)) (a (sl tLi (some ⟨u5, 0, none⟩) 2 wc14.b) (by repeat constructor)), rfl⟩) (by simp) ?_
     refine go_two ?_ ?_
     ·skip
      refine go_call (law13F 1 _ 2 2) rfl rfl (by rfl) rfl (by repeat constructor) (by repeat constructor) (fun _ v Ps' Os' hq => by obtain ⟨rfl, rfl, rfl⟩ := hq; exact satS (by repeat constructor) (by repeat constructor)) ?_
      rintro _ _ _ ⟨rfl, rfl, rfl⟩
      refine go_bslice Tk rfl rfl rfl rfl rfl rfl rfl rfl (fun _ _ => satA) ?_
      intro b58
      refine go_lit_int (kk := .u32) [12, 13] (by repeat constructor) (by simp) ?_
      refine go_call (law13F 1 _ 2 2) rfl rfl (by rfl) rfl (by repeat constructor) (by repeat constructor) (fun _ v Ps' Os' hq => by obtain ⟨rfl, rfl, rfl⟩ := hq; exact satS (by repeat constructor) (by repeat constructor)) ?_
      rintro _ _ _ ⟨rfl, rfl, rfl⟩
      refine go_pure1 Tk rfl rfl rfl ?_
      refine go_bslice Tk rfl rfl rfl rfl rfl rfl rfl rfl (fun _ _ => satA) ?_
      intro bf
      refine go_lit tFa (b := bf) wn14 (by repeat constructor) (fun hp a => ⟨[_, _], _, rfl, tFa_mk (x := (⟨1, [10, 11]⟩ : Fa)) (a (sl tU _ _ [10, 11]) (by repeat constructor)), [_, _], _, rfl, tFa_mk (x := (⟨1, [11, 12]⟩ : Fa)) (a (sl tU _ _ [11, 12]) (by repeat constructor)), [_, _], [], rfl, tFa_mk (x := (⟨1, [12, 13]⟩ : Fa)) (a (sl tU _ _ [12, 13]) (by repeat constructor)), rfl⟩) (by decide) ?_
      refine go_pure1 Tk rfl rfl rfl ?_
      refine go_nil ?_
      refine go_env [(0, _), (1, _)] ⟨rfl, rfl, trivial⟩ ?_
      refine go_ret ⟨rfl, rfl⟩ _ _ (res2 (by rfl) (.tmp rfl) (.tmp rfl)) ⟨_, _, rfl, rfl, rfl⟩ (by repeat constructor) (by repeat constructor)
     refine go_bslice Tk rfl rfl rfl rfl rfl rfl rfl rfl (fun _ _ => satA) ?_
     intro b59
     refine go_lit_int (kk := .u32) [12, 13] (by repeat constructor) (by simp) ?_
     refine go_call (law13F 1 _ 2 2) rfl rfl (by rfl) rfl (by repeat constructor) (by repeat constructor) (fun _ v Ps' Os' hq => by obtain ⟨rfl, rfl, rfl⟩ := hq; exact satS (by repeat constructor) (by repeat constructor)) ?_
     rintro _ _ _ ⟨rfl, rfl, rfl⟩
     refine go_call (law13F 1 _ 2 2) rfl rfl (by rfl) rfl (by repeat constructor) (by repeat constructor) (fun _ v Ps' Os' hq => by obtain ⟨rfl, rfl, rfl⟩ := hq; exact satS (by repeat constructor) (by repeat constructor)) ?_
     rintro _ _ _ ⟨rfl, rfl, rfl⟩
     refine go_pure1 Tk rfl rfl rfl ?_
     refine go_bslice Tk rfl rfl rfl rfl rfl rfl rfl rfl (fun _ _ => satA) ?_
     intro bf
     refine go_lit tFa (b := bf) wn14 (by repeat constructor) (fun hp a => ⟨[_, _], _, rfl, tFa_mk (x := (⟨1, [10, 11]⟩ : Fa)) (a (sl tU _ _ [10, 11]) (by repeat constructor)), [_, _], _, rfl, tFa_mk (x := (⟨1, [11, 12]⟩ : Fa)) (a (sl tU _ _ [11, 12]) (by repeat constructor)), [_, _], [], rfl, tFa_mk (x := (⟨1, [12, 13]⟩ : Fa)) (a (sl tU _ _ [12, 13]) (by repeat constructor)), rfl⟩) (by decide) ?_
     refine go_pure1 Tk rfl rfl rfl ?_
     refine go_nil ?_
     refine go_env [(0, _), (1, _)] ⟨rfl, rfl, trivial⟩ ?_
     refine go_ret ⟨rfl, rfl⟩ _ _ (res2 (by rfl) (.tmp rfl) (.tmp rfl)) ⟨_, _, rfl, rfl, rfl⟩ (by repeat constructor) (by repeat constructor)
    refine go_two ?_ ?_
    ·skip
     refine go_call (law13F 1 _ 2 2) rfl rfl (by rfl) rfl (by repeat constructor) (by repeat constructor) (fun _ v Ps' Os' hq => by obtain ⟨rfl, rfl, rfl⟩ := hq; exact satS (by repeat constructor) (by repeat constructor)) ?_
     rintro _ _ _ ⟨rfl, rfl, rfl⟩
     refine go_two ?_ ?_
     ·skip
      refine go_bslice Tk rfl rfl rfl rfl rfl rfl rfl rfl (fun h => nomatch h) ?_
      intro bs
      refine go_lit tCl (b := bs) [wc14] (by repeat constructor) (fun hp a => ⟨[.int .u32 wc14.h.p, .slice (some ⟨u1, 0, none⟩) wc14.h.a.length 2, .slice (some ⟨u5, 0, none⟩) wc14.b.length 2], [], rfl, tCl_mk (a (sl tTm (some ⟨u1, 0, none⟩) 2 wc14.h.a) (by repeat constructor)) (a (sl tLi (some ⟨u5, 0, none⟩) 2 wc14.b) (by repeat constructor)), rfl⟩) (by simp) ?_
      refine go_bslice Tk rfl rfl rfl rfl rfl rfl rfl rfl (fun _ _ => satA) ?_
      intro b60
      refine go_lit_int (kk := .u32) [12, 13] (by repeat constructor) (by simp) ?_
      refine go_call (law13F 1 _ 2 2) rfl rfl (by rfl) rfl (by repeat constructor) (by repeat constructor) (fun _ v Ps' Os' hq => by obtain ⟨rfl, rfl, rfl⟩ := hq; exact satS (by repeat constructor) (by repeat constructor)) ?_
      rintro _ _ _ ⟨rfl, rfl, rfl⟩
      refine go_pure1 Tk rfl rfl rfl ?_
      refine go_bslice Tk rfl rfl rfl rfl rfl rfl rfl rfl (fun _ _ => satA) ?_
      intro bf
      refine go_lit tFa (b := bf) wn14 (by repeat constructor) (fun hp a => ⟨[_, _], _, rfl, tFa_mk (x := (⟨1, [10, 11]⟩ : Fa)) (a (sl tU _ _ [10, 11]) (by repeat constructor)), [_, _], _, rfl, tFa_mk (x := (⟨1, [11, 12]⟩ : Fa)) (a (sl tU _ _ [11, 12]) (by repeat constructor)), [_, _], [], rfl, tFa_mk (x := (⟨1, [12, 13]⟩ : Fa)) (a (sl tU _ _ [12, 13]) (by repeat constructor)), rfl⟩) (by decide) ?_
      refine go_pure1 Tk rfl rfl rfl ?_
      refine go_nil ?_
      refine go_env [(0, _), (1, _)] ⟨rfl, rfl, trivial⟩ ?_
      refine go_ret ⟨rfl, rfl⟩ _ _ (res2 (by rfl) (.tmp rfl) (.tmp rfl)) ⟨_, _, rfl, rfl, rfl⟩ (by repeat constructor) (by repeat constructor)
     refine go_bslice Tk rfl rfl rfl rfl rfl rfl rfl rfl (fun _ _ => satA) ?_
     intro b61
     refine go_lit_int (kk := .u32) [12, 13] (by repeat constructor) (by simp) ?_
     refine go_two ?_ ?_
     ·skip
      refine go_bslice Tk rfl rfl rfl rfl rfl rfl rfl rfl (fun h => nomatch h) ?_
      intro bs
      refine go_lit tCl (b := bs) [wc14] (by repeat constructor) (fun hp a => ⟨[.int .u32 wc14.h.p, .slice (some ⟨u1, 0, none⟩) wc14.h.a.length 2, .slice (some ⟨u5, 0, none⟩) wc14.b.length 2], [], rfl, tCl_mk (a (sl tTm (some ⟨u1, 0, none⟩) 2 wc14.h.a) (by repeat constructor)) (a (sl tLi (some ⟨u5, 0, none⟩) 2 wc14.b) (by repeat constructor)), rfl⟩) (by simp) ?_
      refine go_call (law13F 1 _ 2 2) rfl rfl (by rfl) rfl (by repeat constructor) (by repeat constructor) (fun _ v Ps' Os' hq => by obtain ⟨rfl, rfl, rfl⟩ := hq; exact satS (by repeat constructor) (by repeat constructor)) ?_
      rintro _ _ _ ⟨rfl, rfl, rfl⟩
      refine go_pure1 Tk rfl rfl rfl ?_
      refine go_bslice Tk rfl rfl rfl rfl rfl rfl rfl rfl (fun _ _ => satA) ?_
      intro bf
      refine go_lit tFa (b := bf) wn14 (by repeat constructor) (fun hp a => ⟨[_, _], _, rfl, tFa_mk (x := (⟨1, [10, 11]⟩ : Fa)) (a (sl tU _ _ [10, 11]) (by repeat constructor)), [_, _], _, rfl, tFa_mk (x := (⟨1, [11, 12]⟩ : Fa)) (a (sl tU _ _ [11, 12]) (by repeat constructor)), [_, _], [], rfl, tFa_mk (x := (⟨1, [12, 13]⟩ : Fa)) (a (sl tU _ _ [12, 13]) (by repeat constructor)), rfl⟩) (by decide) ?_
      refine go_pure1 Tk rfl rfl rfl ?_
      refine go_nil ?_
      refine go_env [(0, _), (1, _)] ⟨rfl, rfl, trivial⟩ ?_
      refine go_ret ⟨rfl, rfl⟩ _ _ (res2 (by rfl) (.tmp rfl) (.tmp rfl)) ⟨_, _, rfl, rfl, rfl⟩ (by repeat constructor) (by repeat constructor)
     refine go_call (law13F 1 _ 2 2) rfl rfl (by rfl) rfl (by repeat constructor) (by repeat constructor) (fun _ v Ps' Os' hq => by obtain ⟨rfl, rfl, rfl⟩ := hq; exact satS (by repeat constructor) (by repeat constructor)) ?_
     rintro _ _ _ ⟨rfl, rfl, rfl⟩
     refine go_two ?_ ?_
     ·skip
      refine go_bslice Tk rfl rfl rfl rfl rfl rfl rfl rfl (fun h => nomatch h) ?_
      intro bs
      refine go_lit tCl (b := bs) [wc14] (by repeat constructor) (fun hp a => ⟨[.int .u32 wc14.h.p, .slice (some ⟨u1, 0, none⟩) wc14.h.a.length 2, .slice (some ⟨u5, 0, none⟩) wc14.b.length 2], [], rfl, tCl_mk (a (sl tTm (some ⟨u1, 0, none⟩) 2 wc14.h.a) (by repeat constructor)) (a (sl tLi (some ⟨u5, 0, none⟩) 2 wc14.b) (by repeat constructor)), rfl⟩) (by simp) ?_
      refine go_pure1 Tk rfl rfl rfl ?_
      refine go_bslice Tk rfl rfl rfl rfl rfl rfl rfl rfl (fun _ _ => satA) ?_
      intro bf
      refine go_lit tFa (b := bf) wn14 (by repeat constructor) (fun hp a => ⟨[_, _], _, rfl, tFa_mk (x := (⟨1, [10, 11]⟩ : Fa)) (a (sl tU _ _ [10, 11]) (by repeat constructor)), [_, _], _, rfl, tFa_mk (x := (⟨1, [11, 12]⟩ : Fa)) (a (sl tU _ _ [11, 12]) (by repeat constructor)), [_, _], [], rfl, tFa_mk (x := (⟨1, [12, 13]⟩ : Fa)) (a (sl tU _ _ [12, 13]) (by repeat constructor)), rfl⟩) (by decide) ?_
      refine go_pure1 Tk rfl rfl rfl ?_
      refine go_nil ?_
      refine go_env [(0, _), (1, _)] ⟨rfl, rfl, trivial⟩ ?_
      refine go_ret ⟨rfl, rfl⟩ _ _ (res2 (by rfl) (.tmp rfl) (.tmp rfl)) ⟨_, _, rfl, rfl, rfl⟩ (by repeat constructor) (by repeat constructor)
     refine go_bslice Tk rfl rfl rfl rfl rfl rfl rfl rfl (fun _ _ => satA) ?_
     intro bf
     refine go_lit tFa (b := bf) wn14 (by repeat constructor) (fun hp a => ⟨[_, _], _, rfl, tFa_mk (x := (⟨1, [10, 11]⟩ : Fa)) (a (sl tU _ _ [10, 11]) (by repeat constructor)), [_, _], _, rfl, tFa_mk (x := (⟨1, [11, 12]⟩ : Fa)) (a (sl tU _ _ [11, 12]) (by repeat constructor)), [_, _], [], rfl, tFa_mk (x := (⟨1, [12, 13]⟩ : Fa)) (a (sl tU _ _ [12, 13]) (by repeat constructor)), rfl⟩) (by decide) ?_
     refine go_bslice Tk rfl rfl rfl rfl rfl rfl rfl rfl (fun h => nomatch h) ?_
     intro bs
     refine go_lit tCl (b := bs) [wc14] (by repeat constructor) (fun hp a => ⟨[.int .u32 wc14.h.p, .slice (some ⟨u1, 0, none⟩) wc14.h.a.length 2, .slice (some ⟨u5, 0, none⟩) wc14.b.length 2], [], rfl, tCl_mk (a (sl tTm (some ⟨u1, 0, none⟩) 2 wc14.h.a) (by repeat constructor)) (a (sl tLi (some ⟨u5, 0, none⟩) 2 wc14.b) (by repeat constructor)), rfl⟩) (by simp) ?_
     iterate 2 refine go_pure1 Tk rfl rfl rfl ?_
     refine go_nil ?_
     refine go_env [(0, _), (1, _)] ⟨rfl, rfl, trivial⟩ ?_
     refine go_ret ⟨rfl, rfl⟩ _ _ (res2 (by rfl) (.tmp rfl) (.tmp rfl)) ⟨_, _, rfl, rfl, rfl⟩ (by repeat constructor) (by repeat constructor)
    refine go_bslice Tk rfl rfl rfl rfl rfl rfl rfl rfl (fun _ _ => satA) ?_
    intro b62
    refine go_lit_int (kk := .u32) [12, 13] (by repeat constructor) (by simp) ?_
    refine go_two ?_ ?_
    ·skip
     refine go_bslice Tk rfl rfl rfl rfl rfl rfl rfl rfl (fun h => nomatch h) ?_
     intro bs
     refine go_lit tCl (b := bs) [wc14] (by repeat constructor) (fun hp a => ⟨[.int .u32 wc14.h.p, .slice (some ⟨u1, 0, none⟩) wc14.h.a.length 2, .slice (some ⟨u5, 0, none⟩) wc14.b.length 2], [], rfl, tCl_mk (a (sl tTm (some ⟨u1, 0, none⟩) 2 wc14.h.a) (by repeat constructor)) (a (sl tLi (some ⟨u5, 0, none⟩) 2 wc14.b) (by repeat constructor)), rfl⟩) (by simp) ?_
     refine go_call (law13F 1 _ 2 2) rfl rfl (by rfl) rfl (by repeat constructor) (by repeat constructor) (fun _ v Ps' Os' hq => by obtain ⟨rfl, rfl, rfl⟩ := hq; exact satS (by repeat constructor) (by repeat constructor)) ?_
     rintro _ _ _ ⟨rfl, rfl, rfl⟩
     refine go_call (law13F 1 _ 2 2) rfl rfl (by rfl) rfl (by repeat constructor) (by repeat constructor) (fun _ v Ps' Os' hq => by obtain ⟨rfl, rfl, rfl⟩ := hq; exact satS (by repeat constructor) (by repeat constructor)) ?_
     rintro _ _ _ ⟨rfl, rfl, rfl⟩
     refine go_pure1 Tk rfl rfl rfl ?_
     refine go_bslice Tk rfl rfl rfl rfl rfl rfl rfl rfl (fun _ _ => satA) ?_
     intro bf
     refine go_lit tFa (b := bf) wn14 (by repeat constructor) (fun hp a => ⟨[_, _], _, rfl, tFa_mk (x := (⟨1, [10, 11]⟩ : Fa)) (a (sl tU _ _ [10, 11]) (by repeat constructor)), [_, _], _, rfl, tFa_mk (x := (⟨1, [11, 12]⟩ : Fa)) (a (sl tU _ _ [11, 12]) (by repeat constructor)), [_, _], [], rfl, tFa_mk (x := (⟨1, [12, 13]⟩ : Fa)) (a (sl tU _ _ [12, 13]) (by repeat constructor)), rfl⟩) (by decide) ?_
     refine go_pure1 Tk rfl rfl rfl ?_
     refine go_nil ?_
     refine go_env [(0, _), (1, _)] ⟨rfl, rfl, trivial⟩ ?_
     refine go_ret ⟨rfl, rfl⟩ _ _ (res2 (by rfl) (.tmp rfl) (.tmp rfl)) ⟨_, _, rfl, rfl, rfl⟩ (by repeat constructor) (by repeat constructor)
    refine go_call (law13F 1 _ 2 2) rfl rfl (by rfl) rfl (by repeat constructor) (by repeat constructor) (fun _ v Ps' Os' hq => by obtain ⟨rfl, rfl, rfl⟩ := hq; exact satS (by repeat constructor) (by repeat constructor)) ?_
    rintro _ _ _ ⟨rfl, rfl, rfl⟩
    refine go_two ?_ ?_
    ·skip
     refine go_bslice Tk rfl rfl rfl rfl rfl rfl rfl rfl (fun h => nomatch h) ?_
     intro bs
     refine go_lit tCl (b := bs) [wc14] (by repeat constructor) (fun hp a => ⟨[.int .u32 wc14.h.p, .slice (some ⟨u1, 0, none⟩) wc14.h.a.length 2, .slice (some ⟨u5, 0, none⟩) wc14.b.length 2], [], rfl, tCl_mk (a (sl tTm (some ⟨u1, 0, none⟩) 2 wc14.h.a) (by repeat constructor)) (a (sl tLi (some ⟨u5, 0, none⟩) 2 wc14.b) (by repeat constructor)), rfl⟩) (by simp) ?_
     refine go_call (law13F 1 _ 2 2) rfl rfl (by rfl) rfl (by repeat constructor) (by repeat constructor) (fun _ v Ps' Os' hq => by obtain ⟨rfl, rfl, rfl⟩ := hq; exact satS (by repeat constructor) (by repeat constructor)) ?_
     rintro _ _ _ ⟨rfl, rfl, rfl⟩
     refine go_pure1 Tk rfl rfl rfl ?_
     refine go_bslice Tk rfl rfl rfl rfl rfl rfl rfl rfl (fun _ _ => satA) ?_
     intro bf
     refine go_lit tFa (b := bf) wn14 (by repeat constructor) (fun hp a => ⟨[_, _], _, rfl, tFa_mk (x := (⟨1, [10, 11]⟩ : Fa)) (a (sl tU _ _ [10, 11]) (by repeat constructor)), [_, _], _, rfl, tFa_mk (x := (⟨1, [11, 12]⟩ : Fa)) (a (sl tU _ _ [11, 12]) (by repeat constructor)), [_, _], [], rfl, tFa_mk (x := (⟨1, [12, 13]⟩ : Fa)) (a (sl tU _ _ [12, 13]) (by repeat constructor)), rfl⟩) (by decide) ?_
     refine go_pure1 Tk rfl rfl rfl ?_
     refine go_nil ?_
     refine go_env [(0, _), (1, _)] ⟨rfl, rfl, trivial⟩ ?_
     refine go_ret ⟨rfl, rfl⟩ _ _ (res2 (by rfl) (.tmp rfl) (.tmp rfl)) ⟨_, _, rfl, rfl, rfl⟩ (by repeat constructor) (by repeat constructor)
    refine go_call (law13F 1 _ 2 2) rfl rfl (by rfl) rfl (by repeat constructor) (by repeat constructor) (fun _ v Ps' Os' hq => by obtain ⟨rfl, rfl, rfl⟩ := hq; exact satS (by repeat constructor) (by repeat constructor)) ?_
    rintro _ _ _ ⟨rfl, rfl, rfl⟩
    refine go_two ?_ ?_
    ·skip
     refine go_bslice Tk rfl rfl rfl rfl rfl rfl rfl rfl (fun h => nomatch h) ?_
     intro bs
     refine go_lit tCl (b := bs) [wc14] (by repeat constructor) (fun hp a => ⟨[.int .u32 wc14.h.p, .slice (some ⟨u1, 0, none⟩) wc14.h.a.length 2, .slice (some ⟨u5, 0, none⟩) wc14.b.length 2], [], rfl, tCl_mk (a (sl tTm (some ⟨u1, 0, none⟩) 2 wc14.h.a) (by repeat constructor)) (a (sl tLi (some ⟨u5, 0, none⟩) 2 wc14.b) (by repeat constructor)), rfl⟩) (by simp) ?_
     refine go_pure1 Tk rfl rfl rfl ?_
     refine go_bslice Tk rfl rfl rfl rfl rfl rfl rfl rfl (fun _ _ => satA) ?_
     intro bf
     refine go_lit tFa (b := bf) wn14 (by repeat constructor) (fun hp a => ⟨[_, _], _, rfl, tFa_mk (x := (⟨1, [10, 11]⟩ : Fa)) (a (sl tU _ _ [10, 11]) (by repeat constructor)), [_, _], _, rfl, tFa_mk (x := (⟨1, [11, 12]⟩ : Fa)) (a (sl tU _ _ [11, 12]) (by repeat constructor)), [_, _], [], rfl, tFa_mk (x := (⟨1, [12, 13]⟩ : Fa)) (a (sl tU _ _ [12, 13]) (by repeat constructor)), rfl⟩) (by decide) ?_
     refine go_pure1 Tk rfl rfl rfl ?_
     refine go_nil ?_
     refine go_env [(0, _), (1, _)] ⟨rfl, rfl, trivial⟩ ?_
     refine go_ret ⟨rfl, rfl⟩ _ _ (res2 (by rfl) (.tmp rfl) (.tmp rfl)) ⟨_, _, rfl, rfl, rfl⟩ (by repeat constructor) (by repeat constructor)
    refine go_bslice Tk rfl rfl rfl rfl rfl rfl rfl rfl (fun _ _ => satA) ?_
    intro bf
    refine go_lit tFa (b := bf) wn14 (by repeat constructor) (fun hp a => ⟨[_, _], _, rfl, tFa_mk (x := (⟨1, [10, 11]⟩ : Fa)) (a (sl tU _ _ [10, 11]) (by repeat constructor)), [_, _], _, rfl, tFa_mk (x := (⟨1, [11, 12]⟩ : Fa)) (a (sl tU _ _ [11, 12]) (by repeat constructor)), [_, _], [], rfl, tFa_mk (x := (⟨1, [12, 13]⟩ : Fa)) (a (sl tU _ _ [12, 13]) (by repeat constructor)), rfl⟩) (by decide) ?_
    refine go_bslice Tk rfl rfl rfl rfl rfl rfl rfl rfl (fun h => nomatch h) ?_
    intro bs
    refine go_lit tCl (b := bs) [wc14] (by repeat constructor) (fun hp a => ⟨[.int .u32 wc14.h.p, .slice (some ⟨u1, 0, none⟩) wc14.h.a.length 2, .slice (some ⟨u5, 0, none⟩) wc14.b.length 2], [], rfl, tCl_mk (a (sl tTm (some ⟨u1, 0, none⟩) 2 wc14.h.a) (by repeat constructor)) (a (sl tLi (some ⟨u5, 0, none⟩) 2 wc14.b) (by repeat constructor)), rfl⟩) (by simp) ?_
    iterate 2 refine go_pure1 Tk rfl rfl rfl ?_
    refine go_nil ?_
    refine go_env [(0, _), (1, _)] ⟨rfl, rfl, trivial⟩ ?_
    refine go_ret ⟨rfl, rfl⟩ _ _ (res2 (by rfl) (.tmp rfl) (.tmp rfl)) ⟨_, _, rfl, rfl, rfl⟩ (by repeat constructor) (by repeat constructor)
   refine go_bslice Tk rfl rfl rfl rfl rfl rfl rfl rfl (fun _ _ => satA) ?_
   intro b63
   refine go_lit_int (kk := .u32) [12, 13] (by repeat constructor) (by simp) ?_
   refine go_two ?_ ?_
   ·skip
    refine go_bslice Tk rfl rfl rfl rfl rfl rfl rfl rfl (fun h => nomatch h) ?_
    intro bs
    refine go_lit tCl (b := bs) [wc14] (by repeat constructor) (fun hp a => ⟨[.int .u32 wc14.h.p, .slice (some ⟨u1, 0, none⟩) wc14.h.a.length 2, .slice (some ⟨u5, 0, none⟩) wc14.b.length 2], [], rfl, tCl_mk (a (sl tTm (some ⟨u1, 0, none⟩) 2 wc14.h.a) (by repeat constructor)) (a (sl tLi (some ⟨u5, 0, none⟩) 2 wc14.b) (by repeat constructor)), rfl⟩) (by simp) ?_
    refine go_call (law13F 1 _ 2 2) rfl rfl (by rfl) rfl (by repeat constructor) (by repeat constructor) (fun _ v Ps' Os' hq => by obtain ⟨rfl, rfl, rfl⟩ := hq; exact satS (by repeat constructor) (by repeat constructor)) ?_
    rintro _ _ _ ⟨rfl, rfl, rfl⟩
    refine go_call (law13F 1 _ 2 2) rfl rfl (by rfl) rfl (by repeat constructor) (by repeat constructor) (fun _ v Ps' Os' hq => by obtain ⟨rfl, rfl, rfl⟩ := hq; exact satS (by repeat constructor) (by repeat constructor)) ?_
    rintro _ _ _ ⟨rfl, rfl, rfl⟩
    refine go_call (law13F 1 _ 2 2) rfl rfl (by rfl) rfl (by repeat constructor) (by repeat constructor) (fun _ v Ps' Os' hq => by obtain ⟨rfl, rfl, rfl⟩ := hq; exact satS (by repeat constructor) (by repeat constructor)) ?_
    rintro _ _ _ ⟨rfl, rfl, rfl⟩
    refine go_pure1 Tk rfl rfl rfl ?_
    refine go_bslice Tk rfl rfl rfl rfl rfl rfl rfl rfl (fun _ _ => satA) ?_
    intro bf
    refine go_lit tFa (b := bf) wn14 (by repeat constructor) (fun hp a => ⟨[_, _], _, rfl, tFa_mk (x := (⟨1, [10, 11]⟩ : Fa)) (a (sl tU _ _ [10, 11]) (by repeat constructor)), [_, _], _, rfl, tFa_mk (x := (⟨1, [11, 12]⟩ : Fa)) (a (sl tU _ _ [11, 12]) (by repeat constructor)), [_, _], [], rfl, tFa_mk (x := (⟨1, [12, 13]⟩ : Fa)) (a (sl tU _ _ [12, 13]) (by repeat constructor)), rfl⟩) (by decide) ?_
    refine go_pure1 Tk rfl rfl rfl ?_
    refine go_nil ?_
    refine go_env [(0, _), (1, _)] ⟨rfl, rfl, trivial⟩ ?_
    refine go_ret ⟨rfl, rfl⟩ _ _ (res2 (by rfl) (.tmp rfl) (.tmp rfl)) ⟨_, _, rfl, rfl, rfl⟩ (by repeat constructor) (by repeat constructor)
   refine go_call (law13F 1 _ 2 2) rfl rfl (by rfl) rfl (by repeat constructor) (by repeat constructor) (fun _ v Ps' Os' hq => by obtain ⟨rfl, rfl, rfl⟩ := hq; exact satS (by repeat constructor) (by repeat constructor)) ?_
   rintro _ _ _ ⟨rfl, rfl, rfl⟩
   refine go_two ?_ ?_
   ·skip
    refine go_bslice Tk rfl rfl rfl rfl rfl rfl rfl rfl (fun h => nomatch h) ?_
    intro bs
    refine go_lit tCl (b := bs) [wc14] (by repeat constructor) (fun hp a => ⟨[.int .u32 wc14.h.p, .slice (some ⟨u1, 0, none⟩) wc14.h.a.length 2, .slice (some ⟨u5, 0, none⟩) wc14.b.length 2], [], rfl, tCl_mk (a (sl tTm (some ⟨u1, 0, none⟩) 2 wc14.h.a) (by repeat constructor)) (a (sl tLi (some ⟨u5, 0, none⟩) 2 wc14.b) (by repeat constructor)), rfl⟩) (by simp) ?_
    refine go_call (law13F 1 _ 2 2) rfl rfl (by rfl) rfl (by repeat constructor) (by repeat constructor) (fun _ v Ps' Os' hq => by obtain ⟨rfl, rfl, rfl⟩ := hq; exact satS (by repeat constructor) (by repeat constructor)) ?_
    rintro _ _ _ ⟨rfl, rfl, rfl⟩
    refine go_call (law13F 1 _ 2 2) rfl rfl (by rfl) rfl (by repeat constructor) (by repeat constructor) (fun _ v Ps' Os' hq => by obtain ⟨rfl, rfl, rfl⟩ := hq; exact satS (by repeat constructor) (by repeat constructor)) ?_
    rintro _ _ _ ⟨rfl, rfl, rfl⟩
    refine go_pure1 Tk rfl rfl rfl ?_
    refine go_bslice Tk rfl rfl rfl rfl rfl rfl rfl rfl (fun _ _ => satA) ?_
    intro bf
    refine go_lit tFa (b := bf) wn14 (by repeat constructor) (fun hp a => ⟨[_, _], _, rfl, tFa_mk (x := (⟨1, [10, 11]⟩ : Fa)) (a (sl tU _ _ [10, 11]) (by repeat constructor)), [_, _], _, rfl, tFa_mk (x := (⟨1, [11, 12]⟩ : Fa)) (a (sl tU _ _ [11, 12]) (by repeat constructor)), [_, _], [], rfl, tFa_mk (x := (⟨1, [12, 13]⟩ : Fa)) (a (sl tU _ _ [12, 13]) (by repeat constructor)), rfl⟩) (by decide) ?_
    refine go_pure1 Tk rfl rfl rfl ?_
    refine go_nil ?_
    refine go_env [(0, _), (1, _)] ⟨rfl, rfl, trivial⟩ ?_
    refine go_ret ⟨rfl, rfl⟩ _ _ (res2 (by rfl) (.tmp rfl) (.tmp rfl)) ⟨_, _, rfl, rfl, rfl⟩ (by repeat constructor) (by repeat constructor)
   refine go_call (law13F 1 _ 2 2) rfl rfl (by rfl) rfl (by repeat constructor) (by repeat constructor) (fun _ v Ps' Os' hq => by obtain ⟨rfl, rfl, rfl⟩ := hq; exact satS (by repeat constructor) (by repeat constructor)) ?_
   rintro _ _ _ ⟨rfl, rfl, rfl⟩
   refine go_two ?_ ?_
   ·skip
    refine go_bslice Tk rfl rfl rfl rfl rfl rfl rfl rfl (fun h => nomatch h) ?_
    intro bs
    refine go_lit tCl (b := bs) [wc14] (by repeat constructor) (fun hp a => ⟨[.int .u32 wc14.h.p, .slice (some ⟨u1, 0, none⟩) wc14.h.a.length 2, .slice (some ⟨u5, 0, none⟩) wc14.b.length 2], [], rfl, tCl_mk (a (sl tTm (some ⟨u1, 0, none⟩) 2 wc14.h.a) (by repeat constructor)) (a (sl tLi (some ⟨u5, 0, none⟩) 2 wc14.b) (by repeat constructor)), rfl⟩) (by simp) ?_
    refine go_call (law13F 1 _ 2 2) rfl rfl (by rfl) rfl (by repeat constructor) (by repeat constructor) (fun _ v Ps' Os' hq => by obtain ⟨rfl, rfl, rfl⟩ := hq; exact satS (by repeat constructor) (by repeat constructor)) ?_
    rintro _ _ _ ⟨rfl, rfl, rfl⟩
    refine go_pure1 Tk rfl rfl rfl ?_
    refine go_bslice Tk rfl rfl rfl rfl rfl rfl rfl rfl (fun _ _ => satA) ?_
    intro bf
    refine go_lit tFa (b := bf) wn14 (by repeat constructor) (fun hp a => ⟨[_, _], _, rfl, tFa_mk (x := (⟨1, [10, 11]⟩ : Fa)) (a (sl tU _ _ [10, 11]) (by repeat constructor)), [_, _], _, rfl, tFa_mk (x := (⟨1, [11, 12]⟩ : Fa)) (a (sl tU _ _ [11, 12]) (by repeat constructor)), [_, _], [], rfl, tFa_mk (x := (⟨1, [12, 13]⟩ : Fa)) (a (sl tU _ _ [12, 13]) (by repeat constructor)), rfl⟩) (by decide) ?_
    refine go_pure1 Tk rfl rfl rfl ?_
    refine go_nil ?_
    refine go_env [(0, _), (1, _)] ⟨rfl, rfl, trivial⟩ ?_
    refine go_ret ⟨rfl, rfl⟩ _ _ (res2 (by rfl) (.tmp rfl) (.tmp rfl)) ⟨_, _, rfl, rfl, rfl⟩ (by repeat constructor) (by repeat constructor)
   refine go_call (law13F 1 _ 2 2) rfl rfl (by rfl) rfl (by repeat constructor) (by repeat constructor) (fun _ v Ps' Os' hq => by obtain ⟨rfl, rfl, rfl⟩ := hq; exact satS (by repeat constructor) (by repeat constructor)) ?_
   rintro _ _ _ ⟨rfl, rfl, rfl⟩
   refine go_two ?_ ?_
   ·skip
    refine go_bslice Tk rfl rfl rfl rfl rfl rfl rfl rfl (fun h => nomatch h) ?_
    intro bs
    refine go_lit tCl (b := bs) [wc14] (by repeat constructor) (fun hp a => ⟨[.int .u32 wc14.h.p, .slice (some ⟨u1, 0, none⟩) wc14.h.a.length 2, .slice (some ⟨u5, 0, none⟩) wc14.b.length 2], [], rfl, tCl_mk (a (sl tTm (some ⟨u1, 0, none⟩) 2 wc14.h.a) (by repeat constructor)) (a (sl tLi (some ⟨u5, 0, none⟩) 2 wc14.b) (by repeat constructor)), rfl⟩) (by simp) ?_
    refine go_pure1 Tk rfl rfl rfl ?_
    refine go_bslice Tk rfl rfl rfl rfl rfl rfl rfl rfl (fun _ _ => satA) ?_
    intro bf
    refine go_lit tFa (b := bf) wn14 (by repeat constructor) (fun hp a => ⟨[_, _], _, rfl, tFa_mk (x := (⟨1, [10, 11]⟩ : Fa)) (a (sl tU _ _ [10, 11]) (by repeat constructor)), [_, _], _, rfl, tFa_mk (x := (⟨1, [11, 12]⟩ : Fa)) (a (sl tU _ _ [11, 12]) (by repeat constructor)), [_, _], [], rfl, tFa_mk (x := (⟨1, [12, 13]⟩ : Fa)) (a (sl tU _ _ [12, 13]) (by repeat constructor)), rfl⟩) (by decide) ?_
    refine go_pure1 Tk rfl rfl rfl ?_
    refine go_nil ?_
    refine go_env [(0, _), (1, _)] ⟨rfl, rfl, trivial⟩ ?_
    refine go_ret ⟨rfl, rfl⟩ _ _ (res2 (by rfl) (.tmp rfl) (.tmp rfl)) ⟨_, _, rfl, rfl, rfl⟩ (by repeat constructor) (by repeat constructor)
   refine go_bslice Tk rfl rfl rfl rfl rfl rfl rfl rfl (fun _ _ => satA) ?_
   intro bf
   refine go_lit tFa (b := bf) wn14 (by repeat constructor) (fun hp a => ⟨[_, _], _, rfl, tFa_mk (x := (⟨1, [10, 11]⟩ : Fa)) (a (sl tU _ _ [10, 11]) (by repeat constructor)), [_, _], _, rfl, tFa_mk (x := (⟨1, [11, 12]⟩ : Fa)) (a (sl tU _ _ [11, 12]) (by repeat constructor)), [_, _], [], rfl, tFa_mk (x := (⟨1, [12, 13]⟩ : Fa)) (a (sl tU _ _ [12, 13]) (by repeat constructor)), rfl⟩) (by decide) ?_
   refine go_bslice Tk rfl rfl rfl rfl rfl rfl rfl rfl (fun h => nomatch h) ?_
   intro bs
   refine go_lit tCl (b := bs) [wc14] (by repeat constructor) (fun hp a => ⟨[.int .u32 wc14.h.p, .slice (some ⟨u1, 0, none⟩) wc14.h.a.length 2, .slice (some ⟨u5, 0, none⟩) wc14.b.length 2], [], rfl, tCl_mk (a (sl tTm (some ⟨u1, 0, none⟩) 2 wc14.h.a) (by repeat constructor)) (a (sl tLi (some ⟨u5, 0, none⟩) 2 wc14.b) (by repeat constructor)), rfl⟩) (by simp) ?_
   iterate 2 refine go_pure1 Tk rfl rfl rfl ?_
   refine go_nil ?_
   refine go_env [(0, _), (1, _)] ⟨rfl, rfl, trivial⟩ ?_
   refine go_ret ⟨rfl, rfl⟩ _ _ (res2 (by rfl) (.tmp rfl) (.tmp rfl)) ⟨_, _, rfl, rfl, rfl⟩ (by repeat constructor) (by repeat constructor)
  refine go_bslice Tk rfl rfl rfl rfl rfl rfl rfl rfl (fun _ _ => satA) ?_
  intro b64
  refine go_lit_int (kk := .u32) [12, 13] (by repeat constructor) (by simp) ?_
  refine go_two ?_ ?_
  ·skip
   refine go_bslice Tk rfl rfl rfl rfl rfl rfl rfl rfl (fun h => nomatch h) ?_
   intro bs
   refine go_lit tCl (b := bs) [wc14] (by repeat constructor) (fun hp a => ⟨[.int .u32 wc14.h.p, .slice (some ⟨u1, 0, none⟩) wc14.h.a.length 2, .slice (some ⟨u5, 0, none⟩) wc14.b.length 2], [], rfl, tCl_mk (a (sl tTm (some ⟨u1, 0, none⟩) 2 wc14.h.a) (by repeat constructor)) (a (sl tLi (some ⟨u5, 0, none⟩) 2 wc14.b) (by repeat constructor)), rfl⟩) (by simp) ?_
   refine go_two ?_ ?_
   ·skip
    refine go_call (law13F 1 _ 2 2) rfl rfl (by rfl) rfl (by repeat constructor) (by repeat constructor) (fun _ v Ps' Os' hq => by obtain ⟨rfl, rfl, rfl⟩ := hq; exact satS (by repeat constructor) (by repeat constructor)) ?_
    rintro _ _ _ ⟨rfl, rfl, rfl⟩
    refine go_bslice Tk rfl rfl rfl rfl rfl rfl rfl rfl (fun _ _ => satA) ?_
    intro b65
    refine go_lit_int (kk := .u32) [11, 12] (by repeat constructor) (by simp) ?_
    refine go_call (law13F 1 _ 2 2) rfl rfl (by rfl) rfl (by repeat constructor) (by repeat constructor) (fun _ v Ps' Os' hq => by obtain ⟨rfl, rfl, rfl⟩ := hq; exact satS (by repeat constructor) (by repeat constructor)) ?_
    rintro _ _ _ ⟨rfl, rfl, rfl⟩
    refine go_call (law13F 1 _ 2 2) rfl rfl (by rfl) rfl (by repeat constructor) (by repeat constructor) (fun _ v Ps' Os' hq => by obtain ⟨rfl, rfl, rfl⟩ := hq; exact satS (by repeat constructor) (by repeat constructor)) ?_
    rintro _ _ _ ⟨rfl, rfl, rfl⟩
    refine go_pure1 Tk rfl rfl rfl ?_
    refine go_bslice Tk rfl rfl rfl rfl rfl rfl rfl rfl (fun _ _ => satA) ?_
    intro bf
    refine go_lit tFa (b := bf) wn14 (by repeat constructor) (fun hp a => ⟨[_, _], _, rfl, tFa_mk (x := (⟨1, [10, 11]⟩ : Fa)) (a (sl tU _ _ [10, 11]) (by repeat constructor)), [_, _], _, rfl, tFa_mk (x := (⟨1, [11, 12]⟩ : Fa)) (a (sl tU _ _ [11, 12]) (by repeat constructor)), [_, _], [], rfl, tFa_mk (x := (⟨1, [12, 13]⟩ : Fa)) (a (sl tU _ _ [12, 13]) (by repeat constructor)), rfl⟩) (by decide) ?_
    refine go_pure1 Tk rfl rfl rfl ?_
    refine go_nil ?_
    refine go_env [(0, _), (1, _)] ⟨rfl, rfl, trivial⟩ ?_
    refine go_ret ⟨rfl, rfl⟩ _ _ (res2 (by rfl) (.tmp rfl) (.tmp rfl)) ⟨_, _, rfl, rfl, rfl⟩ (by repeat constructor) (by repeat constructor)
   refine go_bslice Tk rfl rfl rfl rfl rfl rfl rfl rfl (fun _ _ => satA) ?_
   intro b66
   refine go_lit_int (kk := .u32) [11, 12] (by repeat constructor) (by simp) ?_
   refine go_call (law13F 1 _ 2 2) rfl rfl (by rfl) rfl (by repeat constructor) (by repeat constructor) (fun _ v Ps' Os' hq => by obtain ⟨rfl, rfl, rfl⟩ := hq; exact satS (by repeat constructor) (by repeat constructor)) ?_
   rintro _ _ _ ⟨rfl, rfl, rfl⟩
   refine go_call (law13F 1 _ 2 2) rfl rfl (by rfl) rfl (by repeat constructor) (by repeat constructor) (fun _ v Ps' Os' hq => by obtain ⟨rfl, rfl, rfl⟩ := hq; exact satS (by repeat constructor) (by repeat constructor)) ?_
   rintro _ _ _ ⟨rfl, rfl, rfl⟩
   refine go_call (law13F 1 _ 2 2) rfl rfl (by rfl) rfl (by repeat constructor) (by repeat constructor) (fun _ v Ps' Os' hq => by obtain ⟨rfl, rfl, rfl⟩ := hq; exact satS (by repeat constructor) (by repeat constructor)) ?_
   rintro _ _ _ ⟨rfl, rfl, rfl⟩
   refine go_pure1 Tk rfl rfl rfl ?_
   refine go_bslice Tk rfl rfl rfl rfl rfl rfl rfl rfl (fun _ _ => satA) ?_
   intro bf
   refine go_lit tFa (b := bf) wn14 (by repeat constructor) (fun hp a => ⟨[_, _], _, rfl, tFa_mk (x := (⟨1, [10, 11]⟩ : Fa)) (a (sl tU _ _ [10, 11]) (by repeat constructor)), [_, _], _, rfl, tFa_mk (x := (⟨1, [11, 12]⟩ : Fa)) (a (sl tU _ _ [11, 12]) (by repeat constructor)), [_, _], [], rfl, tFa_mk (x := (⟨1, [12, 13]⟩ : Fa)) (a (sl tU _ _ [12, 13]) (by repeat constructor)), rfl⟩) (by decide) ?_
   refine go_pure1 Tk rfl rfl rfl ?_
   refine go_nil ?_
   refine go_env [(0, _), (1, _)] ⟨rfl, rfl, trivial⟩ ?_
   refine go_ret ⟨rfl, rfl⟩ _ _ (res2 (by rfl) (.tmp rfl) (.tmp rfl)) ⟨_, _, rfl, rfl, rfl⟩ (by repeat constructor) (by repeat constructor)
  refine go_two ?_ ?_
  ·skip
   refine go_call (law13F 1 _ 2 2) rfl rfl (by rfl) rfl (by repeat constructor) (by repeat constructor) (fun _ v Ps' Os' hq => by obtain ⟨rfl, rfl, rfl⟩ := hq; exact satS (by repeat constructor) (by repeat constructor)) ?_
   rintro _ _ _ ⟨rfl, rfl, rfl⟩
   refine go_two ?_ ?_
   ·skip
    refine go_bslice Tk rfl rfl rfl rfl rfl rfl rfl rfl (fun h => nomatch h) ?_
    intro bs
    refine go_lit tCl (b := bs) [wc14] (by repeat constructor) (fun hp a => ⟨[.int .u32 wc14.h.p, .slice (some ⟨u1, 0, none⟩) wc14.h.a.length 2, .slice (some ⟨u5, 0, none⟩) wc14.b.length 2], [], rfl, tCl_mk (a (sl tTm (some ⟨u1, 0, none⟩) 2 wc14.h.a) (by repeat constructor)) (a (sl tLi (some ⟨u5, 0, none⟩) 2 wc14.b) (by repeat constructor)), rfl⟩) (by simp) ?_
    refine go_bslice Tk rfl rfl rfl rfl rfl rfl rfl rfl (fun _ _ => satA) ?_
    intro b67
    refine go_lit_int (kk := .u32) [11, 12] (by repeat constructor) (by simp) ?_
    refine go_call (law13F 1 _ 2 2) rfl rfl (by rfl) rfl (by repeat constructor) (by repeat constructor) (fun _ v Ps' Os' hq => by obtain ⟨rfl, rfl, rfl⟩ := hq; exact satS (by repeat constructor) (by repeat constructor)) ?_
    rintro _ _ _ ⟨rfl, rfl, rfl⟩
    refine go_call (law13F 1 _ 2 2) rfl rfl (by rfl) rfl (by repeat constructor) (by repeat constructor) (fun _ v Ps' Os' hq => by obtain ⟨rfl, rfl, rfl⟩ := hq; exact satS (by repeat constructor) (by repeat constructor)) ?_
    rintro _ _ _ ⟨rfl, rfl, rfl⟩
    refine go_pure1 Tk rfl rfl rfl ?_
    refine go_bslice Tk rfl rfl rfl rfl rfl rfl rfl rfl (fun _ _ => satA) ?_
    intro bf
    refine go_lit tFa (b := bf) wn14 (by repeat constructor) (fun hp a => ⟨[_, _], _, rfl, tFa_mk (x := (⟨1, [10, 11]⟩ : Fa)) (a (sl tU _ _ [10, 11]) (by repeat constructor)), [_, _], _, rfl, tFa_mk (x := (⟨1, [11, 12]⟩ : Fa)) (a (sl tU _ _ [11, 12]) (by repeat constructor)), [_, _], [], rfl, tFa_mk (x := (⟨1, [12, 13]⟩ : Fa)) (a (sl tU _ _ [12, 13]) (by repeat constructor)), rfl⟩) (by decide) ?_
    refine go_pure1 Tk rfl rfl rfl ?_
    refine go_nil ?_
    refine go_env [(0, _), (1, _)] ⟨rfl, rfl, trivial⟩ ?_
    refine go_ret ⟨rfl, rfl⟩ _ _ (res2 (by rfl) (.tmp rfl) (.tmp rfl)) ⟨_, _, rfl, rfl, rfl⟩ (by repeat constructor) (by repeat constructor)
   refine go_bslice Tk rfl rfl rfl rfl rfl rfl rfl rfl (fun _ _ => satA) ?_
   intro b68
   refine go_lit_int (kk := .u32) [11, 12] (by repeat constructor) (by simp) ?_
   refine go_two ?_ ?_
   ·skip
    refine go_bslice Tk rfl rfl rfl rfl rfl rfl rfl rfl (fun h => nomatch h) ?_
    intro bs
    refine go_lit tCl (b := bs) [wc14] (by repeat constructor) (fun hp a => ⟨[.int .u32 wc14.h.p, .slice (some ⟨u1, 0, none⟩) wc14.h.a.length 2, .slice (some ⟨u5, 0, none⟩) wc14.b.length 2], [], rfl, tCl_mk (a (sl tTm (some ⟨u1, 0, none⟩) 2 wc14.h.a) (by repeat constructor)) (a (sl tLi (some ⟨u5, 0, none⟩) 2 wc14.b) (by repeat constructor)), rfl⟩) (by simp) ?_
    refine go_call (law13F 1 _ 2 2) rfl rfl (by rfl) rfl (by repeat constructor) (by repeat constructor) (fun _ v Ps' Os' hq => by obtain ⟨rfl, rfl, rfl⟩ := hq; exact satS (by repeat constructor) (by repeat constructor)) ?_
    rintro _ _ _ ⟨rfl, rfl, rfl⟩
    refine go_call (law13F 1 _ 2 2) rfl rfl (by rfl) rfl (by repeat constructor) (by repeat constructor) (fun _ v Ps' Os' hq => by obtain ⟨rfl, rfl, rfl⟩ := hq; exact satS (by repeat constructor) (by repeat constructor)) ?_
    rintro _ _ _ ⟨rfl, rfl, rfl⟩
    refine go_pure1 Tk rfl rfl rfl ?_
    refine go_bslice Tk rfl rfl rfl rfl rfl rfl rfl rfl (fun _ _ => satA) ?_
    intro bf
    refine go_lit tFa (b := bf) wn14 (by repeat constructor) (fun hp a => ⟨[_, _], _, rfl, tFa_mk (x := (⟨1, [10, 11]⟩ : Fa)) (a (sl tU _ _ [10, 11]) (by repeat constructor)), [_, _], _, rfl, tFa_mk (x := (⟨1, [11, 12]⟩ : Fa)) (a (sl tU _ _ [11, 12]) (by repeat constructor)), [_, _], [], rfl, tFa_mk (x := (⟨1, [12, 13]⟩ : Fa)) (a (sl tU _ _ [12, 13]) (by repeat constructor)), rfl⟩) (by decide) ?_
    refine go_pure1 Tk rfl rfl rfl ?_
    refine go_nil ?_
    refine go_env [(0, _), (1, _)] ⟨rfl, rfl, trivial⟩ ?_
    refine go_ret ⟨rfl, rfl⟩ _ _ (res2 (by rfl) (.tmp rfl) (.tmp rfl)) ⟨_, _, rfl, rfl, rfl⟩ (by repeat constructor) (by repeat constructor)
   refine go_call (law13F 1 _ 2 2) rfl rfl (by rfl) rfl (by repeat constructor) (by repeat constructor) (fun _ v Ps' Os' hq => by obtain ⟨rfl, rfl, rfl⟩ := hq; exact satS (by repeat constructor) (by repeat constructor)) ?_
   rintro _ _ _ ⟨rfl, rfl, rfl⟩
   refine go_two ?_ ?_
   ·skip
    refine go_bslice Tk rfl rfl rfl rfl rfl rfl rfl rfl (fun h => nomatch h) ?_
    intro bs
    refine go_lit tCl (b := bs) [wc14] (by repeat constructor) (fun hp a => ⟨[.int .u32 wc14.h.p, .slice (some ⟨u1, 0, none⟩) wc14.h.a.length 2, .slice (some ⟨u5, 0, none⟩) wc14.b.length 2], [], rfl, tCl_mk (a (sl tTm (some ⟨u1, 0, none⟩) 2 wc14.h.a) (by repeat constructor)) (a (sl tLi (some ⟨u5, 0, none⟩) 2 wc14.b) (by repeat constructor)), rfl⟩) (by simp) ?_
    refine go_call (law13F 1 _ 2 2) rfl rfl (by rfl) rfl (by repeat constructor) (by repeat constructor) (fun _ v Ps' Os' hq => by obtain ⟨rfl, rfl, rfl⟩ := hq; exact satS (by repeat constructor) (by repeat constructor)) ?_
    rintro _ _ _ ⟨rfl, rfl, rfl⟩
    refine go_pure1 Tk rfl rfl rfl ?_
    refine go_bslice Tk rfl rfl rfl rfl rfl rfl rfl rfl (fun _ _ => satA) ?_
    intro bf
    refine go_lit tFa (b := bf) wn14 (by repeat constructor) (fun hp a => ⟨[_, _], _, rfl, tFa_mk (x := (⟨1, [10, 11]⟩ : Fa)) (a (sl tU _ _ [10, 11]) (by repeat constructor)), [_, _], _, rfl, tFa_mk (x := (⟨1, [11, 12]⟩ : Fa)) (a (sl tU _ _ [11, 12]) (by repeat constructor)), [_, _], [], rfl, tFa_mk (x := (⟨1, [12, 13]⟩ : Fa)) (a (sl tU _ _ [12, 13]) (by repeat constructor)), rfl⟩) (by decide) ?_
    refine go_pure1 Tk rfl rfl rfl ?_
    refine go_nil ?_
    refine go_env [(0, _), (1, _)] ⟨rfl, rfl, trivial⟩ ?_
    refine go_ret ⟨rfl, rfl⟩ _ _ (res2 (by rfl) (.tmp rfl) (.tmp rfl)) ⟨_, _, rfl, rfl, rfl⟩ (by repeat constructor) (by repeat constructor)
   refine go_call (law13F 1 _ 2 2) rfl rfl (by rfl) rfl (by repeat constructor) (by repeat constructor) (fun _ v Ps' Os' hq => by obtain ⟨rfl, rfl, rfl⟩ := hq; exact satS (by repeat constructor) (by repeat constructor)) ?_
   rintro _ _ _ ⟨rfl, rfl, rfl⟩
   refine go_two ?_ ?_
   ·skip
    refine go_bslice Tk rfl rfl rfl rfl rfl rfl rfl rfl (fun h => nomatch h) ?_
    intro bs
    refine go_lit tCl (b := bs) [wc14] (by repeat constructor) (fun hp a => ⟨[.int .u32 wc14.h.p, .slice (some ⟨u1, 0, none⟩) wc14.h.a.length 2, .slice (some ⟨u5, 0, none⟩) wc14.b.length 2], [], rfl, tCl_mk (a (sl tTm (some ⟨u1, 0, none⟩) 2 wc14.h.a) (by repeat constructor)) (a (sl tLi (some ⟨u5, 0, none⟩) 2 wc14.b) (by repeat constructor)), rfl⟩) (by simp) ?_
    refine go_pure1 Tk rfl rfl rfl ?_
    refine go_bslice Tk rfl rfl rfl rfl rfl rfl rfl rfl (fun _ _ => satA) ?_
    intro bf
    refine go_lit tFa (b := bf) wn14 (by repeat constructor) (fun hp a => ⟨[_, _], _, rfl, tFa_mk (x := (⟨1, [10, 11]⟩ : Fa)) (a (sl tU _ _ [10, 11]) (by repeat constructor)), [_, _], _, rfl, tFa_mk (x := (⟨1, [11, 12]⟩ : Fa)) (a (sl tU _ _ [11, 12]) (by repeat constructor)), [_, _], [], rfl, tFa_mk (x := (⟨1, [12, 13]⟩ : Fa)) (a (sl tU _ _ [12, 13]) (by repeat constructor)), rfl⟩) (by decide) ?_
    refine go_pure1 Tk rfl rfl rfl ?_
    refine go_nil ?_
    refine go_env [(0, _), (1, _)] ⟨rfl, rfl, trivial⟩ ?_
    refine go_ret ⟨rfl, rfl⟩ _ _ (res2 (by rfl) (.tmp rfl) (.tmp rfl)) ⟨_, _, rfl, rfl, rfl⟩ (by repeat constructor) (by repeat constructor)
   refine go_bslice Tk rfl rfl rfl rfl rfl rfl rfl rfl (fun _ _ => satA) ?_
   intro bf
   refine go_lit tFa (b := bf) wn14 (by repeat constructor) (fun hp a => ⟨[_, _], _, rfl, tFa_mk (x := (⟨1, [10, 11]⟩ : Fa)) (a (sl tU _ _ [10, 11]) (by repeat constructor)), [_, _], _, rfl, tFa_mk (x := (⟨1, [11, 12]⟩ : Fa)) (a (sl tU _ _ [11, 12]) (by repeat constructor)), [_, _], [], rfl, tFa_mk (x := (⟨1, [12, 13]⟩ : Fa)) (a (sl tU _ _ [12, 13]) (by repeat constructor)), rfl⟩) (by decide) ?_
   refine go_bslice Tk rfl rfl rfl rfl rfl rfl rfl rfl (fun h => nomatch h) ?_
   intro bs
   refine go_lit tCl (b := bs) [wc14] (by repeat constructor) (fun hp a => ⟨[.int .u32 wc14.h.p, .slice (some ⟨u1, 0, none⟩) wc14.h.a.length 2, .slice (some ⟨u5, 0, none⟩) wc14.b.length 2], [], rfl, tCl_mk (a (sl tTm (some ⟨u1, 0, none⟩) 2 wc14.h.a) (by repeat constructor)) (a (sl tLi (some ⟨u5, 0, none⟩) 2 wc14.b) (by repeat constructor)), rfl⟩) (by simp) ?_
   iterate 2 refine go_pure1 Tk rfl rfl rfl ?_
   refine go_nil ?_
   refine go_env [(0, _), (1, _)] ⟨rfl, rfl, trivial⟩ ?_
   refine go_ret ⟨rfl, rfl⟩ _ _ (res2 (by rfl) (.tmp rfl) (.tmp rfl)) ⟨_, _, rfl, rfl, rfl⟩ (by repeat constructor) (by repeat constructor)
  refine go_bslice Tk rfl rfl rfl rfl rfl rfl rfl rfl (fun _ _ => satA) ?_
  intro b69
  refine go_lit_int (kk := .u32) [11, 12] (by repeat constructor) (by simp) ?_
  refine go_two ?_ ?_
  ·skip
   refine go_bslice Tk rfl rfl rfl rfl rfl rfl rfl rfl (fun h => nomatch h) ?_
   intro bs
   refine go_lit tCl (b := bs) [wc14] (by repeat constructor) (fun hp a => ⟨[.int .u32 wc14.h.p, .slice (some ⟨u1, 0, none⟩) wc14.h.a.length 2, .slice (some ⟨u5, 0, none⟩) wc14.b.length 2], [], rfl, tCl_mk (a (sl tTm (some ⟨u1, 0, none⟩) 2 wc14.h.a) (by repeat constructor)) (a (sl tLi (some ⟨u5, 0, none⟩) 2 wc14.b) (by repeat constructor)), rfl⟩) (by simp) ?_
   refine go_call (law13F 1 _ 2 2) rfl rfl (by rfl) rfl (by repeat constructor) (by repeat constructor) (fun _ v Ps' Os' hq => by obtain ⟨rfl, rfl, rfl⟩ := hq; exact satS (by repeat constructor) (by repeat constructor)) ?_
   rintro _ _ _ ⟨rfl, rfl, rfl⟩
   refine go_call (law13F 1 _ 2 2) rfl rfl (by rfl) rfl (by repeat constructor) (by repeat constructor) (fun _ v Ps' Os' hq => by obtain ⟨rfl, rfl, rfl⟩ := hq; exact satS (by repeat constructor) (by repeat constructor)) ?_
   rintro _ _ _ ⟨rfl, rfl, rfl⟩
   refine go_call (law13F 1 _ 2 2) rfl rfl (by rfl) rfl (by repeat constructor) (by repeat constructor) (fun _ v Ps' Os' hq => by obtain ⟨rfl, rfl, rfl⟩ := hq; exact satS (by repeat constructor) (by repeat constructor)) ?_
   rintro _ _ _ ⟨rfl, rfl, rfl⟩
   refine go_pure1 Tk rfl rfl rfl ?_
   refine go_bslice Tk rfl rfl rfl rfl rfl rfl rfl rfl (fun _ _ => satA) ?_
   intro bf
   refine go_lit tFa (b := bf) wn14 (by repeat constructor) (fun hp a => ⟨[_, _], _, rfl, tFa_mk (x := (⟨1, [10, 11]⟩ : Fa)) (a (sl tU _ _ [10, 11]) (by repeat constructor)), [_, _], _, rfl, tFa_mk (x := (⟨1, [11, 12]⟩ : Fa)) (a (sl tU _ _ [11, 12]) (by repeat constructor)), [_, _], [], rfl, tFa_mk (x := (⟨1, [12, 13]⟩ : Fa)) (a (sl tU _ _ [12, 13]) (by repeat constructor)), rfl⟩) (by decide) ?_
   refine go_pure1 Tk rfl rfl rfl ?_
   refine go_nil ?_
   refine go_env [(0, _), (1, _)] ⟨rfl, rfl, trivial⟩ ?_
   refine go_ret ⟨rfl, rfl⟩ _ _ (res2 (by rfl) (.tmp rfl) (.tmp rfl)) ⟨_, _, rfl, rfl, rfl⟩ (by repeat constructor) (by repeat constructor)
  refine go_call (law13F 1 _ 2 2) rfl rfl (by rfl) rfl (by repeat constructor) (by repeat constructor) (fun _ v Ps' Os' hq => by obtain ⟨rfl, rfl, rfl⟩ := hq; exact satS (by repeat constructor) (by repeat constructor)) ?_
  rintro _ _ _ ⟨rfl, rfl, rfl⟩
  refine go_two ?_ ?_
  ·skip
   refine go_bslice Tk rfl rfl rfl rfl rfl rfl rfl rfl (fun h => nomatch h) ?_
   intro bs
   refine go_lit tCl (b := bs) [wc14] (by repeat constructor) (fun hp a => ⟨[.int .u32 wc14.h.p, .slice (some ⟨u1, 0, none⟩) wc14.h.a.length 2, .slice (some ⟨u5, 0, none⟩) wc14.b.length 2], [], rfl, tCl_mk (a (sl tTm (some ⟨u1, 0, none⟩) 2 wc14.h.a) (by repeat constructor)) (a (sl tLi (some ⟨u5, 0, none⟩) 2 wc14.b) (by repeat constructor)), rfl⟩) (by simp) ?_
   refine go_call (law13F 1 _ 2 2) rfl rfl (by rfl) rfl (by repeat constructor) (by repeat constructor) (fun _ v Ps' Os' hq => by obtain ⟨rfl, rfl, rfl⟩ := hq; exact satS (by repeat constructor) (by repeat constructor)) ?_
   rintro _ _ _ ⟨rfl, rfl, rfl⟩
   refine go_call (law13F 1 _ 2 2) rfl rfl (by rfl) rfl (by repeat constructor) (by repeat constructor) (fun _ v Ps' Os' hq => by obtain ⟨rfl, rfl, rfl⟩ := hq; exact satS (by repeat constructor) (by repeat constructor)) ?_
   rintro _ _ _ ⟨rfl, rfl, rfl⟩
   refine go_pure1 Tk rfl rfl rfl ?_
   refine go_bslice Tk rfl rfl rfl rfl rfl rfl rfl rfl (fun _ _ => satA) ?_
   intro bf
   refine go_lit tFa (b := bf) wn14 (by repeat constructor) (fun hp a => ⟨[_, _], _, rfl, tFa_mk (x := (⟨1, [10, 11]⟩ : Fa)) (a (sl tU _ _ [10, 11]) (by repeat constructor)), [_, _], _, rfl, tFa_mk (x := (⟨1, [11, 12]⟩ : Fa)) (a (sl tU _ _ [11, 12]) (by repeat constructor)), [_, _], [], rfl, tFa_mk (x := (⟨1, [12, 13]⟩ : Fa)) (a (sl tU _ _ [12, 13]) (by repeat constructor)), rfl⟩) (by decide) ?_
   refine go_pure1 Tk rfl rfl rfl ?_
   refine go_nil ?_
   refine go_env [(0, _), (1, _)] ⟨rfl, rfl, trivial⟩ ?_
   refine go_ret ⟨rfl, rfl⟩ _ _ (res2 (by rfl) (.tmp rfl) (.tmp rfl)) ⟨_, _, rfl, rfl, rfl⟩ (by repeat constructor) (by repeat constructor)
  refine go_call (law13F 1 _ 2 2) rfl rfl (by rfl) rfl (by repeat constructor) (by repeat constructor) (fun _ v Ps' Os' hq => by obtain ⟨rfl, rfl, rfl⟩ := hq; exact satS (by repeat constructor) (by repeat constructor)) ?_
  rintro _ _ _ ⟨rfl, rfl, rfl⟩
  refine go_two ?_ ?_
  ·skip
   refine go_bslice Tk rfl rfl rfl rfl rfl rfl rfl rfl (fun h => nomatch h) ?_
   intro bs
   refine go_lit tCl (b := bs) [wc14] (by repeat constructor) (fun hp a => ⟨[.int .u32 wc14.h.p, .slice (some ⟨u1, 0, none⟩) wc14.h.a.length 2, .slice (some ⟨u5, 0, none⟩) wc14.b.length 2], [], rfl, tCl_mk (a (sl tTm (some ⟨u1, 0, none⟩) 2 wc14.h.a) (by repeat constructor)) (a (sl tLi (some ⟨u5, 0, none⟩) 2 wc14.b) (by repeat constructor)), rfl⟩) (by simp) ?_
   refine go_call (law13F 1 _ 2 2) rfl rfl (by rfl) rfl (by repeat constructor) (by repeat constructor) (fun _ v Ps' Os' hq => by obtain ⟨rfl, rfl, rfl⟩ := hq; exact satS (by repeat constructor) (by repeat constructor)) ?_
   rintro _ _ _ ⟨rfl, rfl, rfl⟩
   refine go_pure1 Tk rfl rfl rfl ?_
   refine go_bslice Tk rfl rfl rfl rfl rfl rfl rfl rfl (fun _ _ => satA) ?_
   intro bf
   refine go_lit tFa (b := bf) wn14 (by repeat constructor) (fun hp a => ⟨[_, _], _, rfl, tFa_mk (x := (⟨1, [10, 11]⟩ : Fa)) (a (sl tU _ _ [10, 11]) (by repeat constructor)), [_, _], _, rfl, tFa_mk (x := (⟨1, [11, 12]⟩ : Fa)) (a (sl tU _ _ [11, 12]) (by repeat constructor)), [_, _], [], rfl, tFa_mk (x := (⟨1, [12, 13]⟩ : Fa)) (a (sl tU _ _ [12, 13]) (by repeat constructor)), rfl⟩) (by decide) ?_
   refine go_pure1 Tk rfl rfl rfl ?_
   refine go_nil ?_
   refine go_env [(0, _), (1, _)] ⟨rfl, rfl, trivial⟩ ?_
   refine go_ret ⟨rfl, rfl⟩ _ _ (res2 (by rfl) (.tmp rfl) (.tmp rfl)) ⟨_, _, rfl, rfl, rfl⟩ (by repeat constructor) (by repeat constructor)
  refine go_call (law13F 1 _ 2 2) rfl rfl (by rfl) rfl (by repeat constructor) (by repeat constructor) (fun _ v Ps' Os' hq => by obtain ⟨rfl, rfl, rfl⟩ := hq; exact satS (by repeat constructor) (by repeat constructor)) ?_
  rintro _ _ _ ⟨rfl, rfl, rfl⟩
  refine go_two ?_ ?_
  ·skip
   refine go_bslice Tk rfl rfl rfl rfl rfl rfl rfl rfl (fun h => nomatch h) ?_
   intro bs
   refine go_lit tCl (b := bs) [wc14] (by repeat constructor) (fun hp a => ⟨[.int .u32 wc14.h.p, .slice (some ⟨u1, 0, none⟩) wc14.h.a.length 2, .slice (some ⟨u5, 0, none⟩) wc14.b.length 2], [], rfl, tCl_mk (a (sl tTm (some ⟨u1, 0, none⟩) 2 wc14.h.a) (by repeat constructor)) (a (sl tLi (some ⟨u5, 0, none⟩) 2 wc14.b) (by repeat constructor)), rfl⟩) (by simp) ?_
   refine go_pure1 Tk rfl rfl rfl ?_
   refine go_bslice Tk rfl rfl rfl rfl rfl rfl rfl rfl (fun _ _ => satA) ?_
   intro bf
   refine go_lit tFa (b := bf) wn14 (by repeat constructor) (fun hp a => ⟨[_, _], _, rfl, tFa_mk (x := (⟨1, [10, 11]⟩ : Fa)) (a (sl tU _ _ [10, 11]) (by repeat constructor)), [_, _], _, rfl, tFa_mk (x := (⟨1, [11, 12]⟩ : Fa)) (a (sl tU _ _ [11, 12]) (by repeat constructor)), [_, _], [], rfl, tFa_mk (x := (⟨1, [12, 13]⟩ : Fa)) (a (sl tU _ _ [12, 13]) (by repeat constructor)), rfl⟩) (by decide) ?_
   refine go_pure1 Tk rfl rfl rfl ?_
   refine go_nil ?_
   refine go_env [(0, _), (1, _)] ⟨rfl, rfl, trivial⟩ ?_
   refine go_ret ⟨rfl, rfl⟩ _ _ (res2 (by rfl) (.tmp rfl) (.tmp rfl)) ⟨_, _, rfl, rfl, rfl⟩ (by repeat constructor) (by repeat constructor)
  refine go_bslice Tk rfl rfl rfl rfl rfl rfl rfl rfl (fun _ _ => satA) ?_
  intro bf
  refine go_lit tFa (b := bf) wn14 (by repeat constructor) (fun hp a => ⟨[_, _], _, rfl, tFa_mk (x := (⟨1, [10, 11]⟩ : Fa)) (a (sl tU _ _ [10, 11]) (by repeat constructor)), [_, _], _, rfl, tFa_mk (x := (⟨1, [11, 12]⟩ : Fa)) (a (sl tU _ _ [11, 12]) (by repeat constructor)), [_, _], [], rfl, tFa_mk (x := (⟨1, [12, 13]⟩ : Fa)) (a (sl tU _ _ [12, 13]) (by repeat constructor)), rfl⟩) (by decide) ?_
  refine go_bslice Tk rfl rfl rfl rfl rfl rfl rfl rfl (fun h => nomatch h) ?_
  intro bs
  refine go_lit tCl (b := bs) [wc14] (by repeat constructor) (fun hp a => ⟨[.int .u32 wc14.h.p, .slice (some ⟨u1, 0, none⟩) wc14.h.a.length 2, .slice (some ⟨u5, 0, none⟩) wc14.b.length 2], [], rfl, tCl_mk (a (sl tTm (some ⟨u1, 0, none⟩) 2 wc14.h.a) (by repeat constructor)) (a (sl tLi (some ⟨u5, 0, none⟩) 2 wc14.b) (by repeat constructor)), rfl⟩) (by simp) ?_
  iterate 2 refine go_pure1 Tk rfl rfl rfl ?_
  refine go_nil ?_
  refine go_env [(0, _), (1, _)] ⟨rfl, rfl, trivial⟩ ?_
  refine go_ret ⟨rfl, rfl⟩ _ _ (res2 (by rfl) (.tmp rfl) (.tmp rfl)) ⟨_, _, rfl, rfl, rfl⟩ (by repeat constructor) (by repeat constructor)
 refine go_two ?_ ?_
 ·skip
  refine go_bslice Tk rfl rfl rfl rfl rfl rfl rfl rfl (fun _ _ => satA) ?_
  intro b70
  refine go_lit_int (kk := .u32) [11, 12] (by repeat constructor) (by simp) ?_
  refine go_two ?_ ?_
  ·skip
   refine go_bslice Tk rfl rfl rfl rfl rfl rfl rfl rfl (fun h => nomatch h) ?_
   intro bs
   refine go_lit tCl (b := bs) [wc14] (by repeat constructor) (fun hp a => ⟨[.int .u32 wc14.h.p, .slice (some ⟨u1, 0, none⟩) wc14.h.a.length 2, .slice (some ⟨u5, 0, none⟩) wc14.b.length 2], [], rfl, tCl_mk (a (sl tTm (some ⟨u1, 0, none⟩) 2 wc14.h.a) (by repeat constructor)) (a (sl tLi (some ⟨u5, 0, none⟩) 2 wc14.b) (by repeat constructor)), rfl⟩) (by simp) ?_
   refine go_two ?_ ?_
   ·skip
    refine go_bslice Tk rfl rfl rfl rfl rfl rfl rfl rfl (fun _ _ => satA) ?_
    intro b71
    refine go_lit_int (kk := .u32) [10, 11] (by repeat constructor) (by simp) ?_
    refine go_two ?_ ?_
    ·skip
     refine go_call (law13F 1 _ 2 2) rfl rfl (by rfl) rfl (by repeat constructor) (by repeat constructor) (fun _ v Ps' Os' hq => by obtain ⟨rfl, rfl, rfl⟩ := hq; exact satS (by repeat constructor) (by repeat constructor)) ?_
     rintro _ _ _ ⟨rfl, rfl, rfl⟩
     refine go_two ?_ ?_
     ·skip
      refine go_call (law13F 1 _ 2 2) rfl rfl (by rfl) rfl (by repeat constructor) (by repeat constructor) (fun _ v Ps' Os' hq => by obtain ⟨rfl, rfl, rfl⟩ := hq; exact satS (by repeat constructor) (by repeat constructor)) ?_
      rintro _ _ _ ⟨rfl, rfl, rfl⟩
      refine go_bslice Tk rfl rfl rfl rfl rfl rfl rfl rfl (fun _ _ => satA) ?_
      intro b72
      refine go_lit_int (kk := .u32) [12, 13] (by repeat constructor) (by simp) ?_
      refine go_call (law13F 1 _ 2 2) rfl rfl (by rfl) rfl (by repeat constructor) (by repeat constructor) (fun _ v Ps' Os' hq => by obtain ⟨rfl, rfl, rfl⟩ := hq; exact satS (by repeat constructor) (by repeat constructor)) ?_
      rintro _ _ _ ⟨rfl, rfl, rfl⟩
      refine go_pure1 Tk rfl rfl rfl ?_
      refine go_bslice Tk rfl rfl rfl rfl rfl rfl rfl rfl (fun _ _ => satA) ?_
      intro bf
      refine go_lit tFa (b := bf) wn14 (by repeat constructor) (fun hp a => ⟨[_, _], _, rfl, tFa_mk (x := (⟨1, [10, 11]⟩ : Fa)) (a (sl tU _ _ [10, 11]) (by repeat constructor)), [_, _], _, rfl, tFa_mk (x := (⟨1, [11, 12]⟩ : Fa)) (a (sl tU _ _ [11, 12]) (by repeat constructor)), [_, _], [], rfl, tFa_mk (x := (⟨1, [12, 13]⟩ : Fa)) (a (sl tU _ _ [12, 13]) (by repeat constructor)), rfl⟩) (by decide) ?_
      refine go_pure1 Tk rfl rfl rfl ?_
      refine go_nil ?_
      refine go_env [(0, _), (1, _)] ⟨rfl, rfl, trivial⟩ ?_
      refine go_ret ⟨rfl, rfl⟩ _ _ (res2 (by rfl) (.tmp rfl) (.tmp rfl)) ⟨_, _, rfl, rfl, rfl⟩ (by repeat constructor) (by repeat constructor)
     refine go_bslice Tk rfl rfl rfl rfl rfl rfl rfl rfl (fun _ _ => satA) ?_
     intro b73
     refine go_lit_int (kk := .u32) [12, 13] (by repeat constructor) (by simp) ?_
     refine go_call (law13F 1 _ 2 2) rfl rfl (by rfl) rfl (by repeat constructor) (by repeat constructor) (fun _ v Ps' Os' hq => by obtain ⟨rfl, rfl, rfl⟩ := hq; exact satS (by repeat constructor) (by repeat constructor)) ?_
     rintro _ _ _ ⟨rfl, rfl, rfl⟩
     refine go_call (law13F 1 _ 2 2) rfl rfl (by rfl) rfl (by repeat constructor) (by repeat constructor) (fun _ v Ps' Os' hq => by obtain ⟨rfl, rfl, rfl⟩ := hq; exact satS (by repeat constructor) (by repeat constructor)) ?_
     rintro _ _ _ ⟨rfl, rfl, rfl⟩
     refine go_pure1 Tk rfl rfl rfl ?_
     refine go_bslice Tk rfl rfl rfl rfl rfl rfl rfl rfl (fun _ _ => satA) ?_
     intro bf
     refine go_lit tFa (b := bf) wn14 (by repeat constructor) (fun hp a => ⟨[_, _], _, rfl, tFa_mk (x := (⟨1, [10, 11]⟩ : Fa)) (a (sl tU _ _ [10, 11]) (by repeat constructor)), [_, _], _, rfl, tFa_mk (x := (⟨1, [11, 12]⟩ : Fa)) (a (sl tU _ _ [11, 12]) (by repeat constructor)), [_, _], [], rfl, tFa_mk (x := (⟨1, [12, 13]⟩ : Fa)) (a (sl tU _ _ [12, 13]) (by repeat constructor)), rfl⟩) (by decide) ?_
     refine go_pure1 Tk rfl rfl rfl ?_
     refine go_nil ?_
     refine go_env [(0, _), (1, _)] ⟨rfl, rfl, trivial⟩ ?_
     refine go_ret ⟨rfl, rfl⟩ _ _ (res2 (by rfl) (.tmp rfl) (.tmp rfl)) ⟨_, _, rfl, rfl, rfl⟩ (by repeat constructor) (by repeat constructor)
    refine go_bslice Tk rfl rfl rfl rfl rfl rfl rfl rfl (fun _ _ => satA) ?_
    intro b74
    refine go_lit_int (kk := .u32) [12, 13] (by repeat constructor) (by simp) ?_
    refine go_call (law13F 1 _ 2 2) rfl rfl (by rfl) rfl (by repeat constructor) (by repeat constructor) (fun _ v Ps' Os' hq => by obtain ⟨rfl, rfl, rfl⟩ := hq; exact satS (by repeat constructor) (by repeat constructor)) ?_
    rintro _ _ _ ⟨rfl, rfl, rfl⟩
    refine go_call (law13F 1 _ 2 2) rfl rfl (by rfl) rfl (by repeat constructor) (by repeat constructor) (fun _ v Ps' Os' hq => by obtain ⟨rfl, rfl, rfl⟩ := hq; exact satS (by repeat constructor) (by repeat constructor)) ?_
    rintro _ _ _ ⟨rfl, rfl, rfl⟩
    refine go_call (law13F 1 _ 2 2) rfl rfl (by rfl) rfl (by repeat constructor) (by repeat constructor) (fun _ v Ps' Os' hq => by obtain ⟨rfl, rfl, rfl⟩ := hq; exact satS (by repeat constructor) (by repeat constructor)) ?_
    rintro _ _ _ ⟨rfl, rfl, rfl⟩
    refine go_pure1 Tk rfl rfl rfl ?_
    refine go_bslice Tk rfl rfl rfl rfl rfl rfl rfl rfl (fun _ _ => satA) ?_
    intro bf
    refine go_lit tFa (b := bf) wn14 (by repeat constructor) (fun hp a => ⟨[_, _], _, rfl, tFa_mk (x := (⟨1, [10, 11]⟩ : Fa)) (a (sl tU _ _ [10, 11]) (by repeat constructor)), [_, _], _, rfl, tFa_mk (x := (⟨1, [11, 12]⟩ : Fa)) (a (sl tU _ _ [11, 12]) (by repeat constructor)), [_, _], [], rfl, tFa_mk (x := (⟨1, [12, 13]⟩ : Fa)) (a (sl tU _ _ [12, 13]) (by repeat constructor)), rfl⟩) (by decide) ?_
    refine go_pure1 Tk rfl rfl rfl ?_
    refine go_nil ?_
    refine go_env [(0, _), (1, _)] ⟨rfl, rfl, trivial⟩ ?_
    refine go_ret ⟨rfl, rfl⟩ _ _ (res2 (by rfl) (.tmp rfl) (.tmp rfl)) ⟨_, _, rfl, rfl, rfl⟩ (by repeat constructor) (by repeat constructor)
   refine go_bslice Tk rfl rfl rfl rfl rfl rfl rfl rfl (fun _ _ => satA) ?_
   intro b75
   refine go_lit_int (kk := .u32) [12, 13] (by repeat constructor) (by simp) ?_
   refine go_bslice Tk rfl rfl rfl rfl rfl rfl rfl rfl (fun _ _ => satA) ?_
   intro b76
   refine go_lit_int (kk := .u32) [10, 11] (by repeat constructor) (by simp) ?_
   refine go_call (law13F 1 _ 2 2) rfl rfl (by rfl) rfl (by repeat constructor) (by repeat constructor) (fun _ v Ps' Os' hq => by obtain ⟨rfl, rfl, rfl⟩ := hq; exact satS (by repeat constructor) (by repeat constructor)) ?_
   rintro _ _ _ ⟨rfl, rfl, rfl⟩
   refine go_call (law13F 1 _ 2 2) rfl rfl (by rfl) rfl (by repeat constructor) (by repeat constructor) (fun _ v Ps' Os' hq => by obtain ⟨rfl, rfl, rfl⟩ := hq; exact satS (by repeat constructor) (by repeat constructor)) ?_
   rintro _ _ _ ⟨rfl, rfl, rfl⟩
   refine go_call (law13F 1 _ 2 2) rfl rfl (by rfl) rfl (by repeat constructor) (by repeat constructor) (fun _ v Ps' Os' hq => by obtain ⟨rfl, rfl, rfl⟩ := hq; exact satS (by repeat constructor) (by repeat constructor)) ?_
   rintro _ _ _ ⟨rfl, rfl, rfl⟩
   refine go_pure1 Tk rfl rfl rfl ?_
   refine go_bslice Tk rfl rfl rfl rfl rfl rfl rfl rfl (fun _ _ => satA) ?_
   intro bf
   refine go_lit tFa (b := bf) wn14 (by repeat constructor) (fun hp a => ⟨[_, _], _, rfl, tFa_mk (x := (⟨1, [10, 11]⟩ : Fa)) (a (sl tU _ _ [10, 11]) (by repeat constructor)), [_, _], _, rfl, tFa_mk (x := (⟨1, [11, 12]⟩ : Fa)) (a (sl tU _ _ [11, 12]) (by repeat constructor)), [_, _], [], rfl, tFa_mk (x := (⟨1, [12, 13]⟩ : Fa)) (a (sl tU _ _ [12, 13]) (by repeat constructor)), rfl⟩) (by decide) ?_
   refine go_pure1 Tk rfl rfl rfl ?_
   refine go_nil ?_
   refine go_env [(0, _), (1, _)] ⟨rfl, rfl, trivial⟩ ?_
   refine go_ret ⟨rfl, rfl⟩ _ _ (res2 (by rfl) (.tmp rfl) (.tmp rfl)) ⟨_, _, rfl, rfl, rfl⟩ (by repeat constructor) (by repeat constructor)
  refine go_two ?_ ?_
  ·skip
   refine go_bslice Tk rfl rfl rfl rfl rfl rfl rfl rfl (fun _ _ => satA) ?_
   intro b77
   refine go_lit_int (kk := .u32) [10, 11] (by repeat constructor) (by simp) ?_
   refine go_two ?_ ?_
   ·skip
    refine go_bslice Tk rfl rfl rfl rfl rfl rfl rfl rfl (fun h => nomatch h) ?_
    intro bs
    refine go_lit tCl (b := bs) [wc14] (by repeat constructor) (fun hp a => ⟨[.int .u32 wc14.h.p, .slice (some ⟨u1, 0, none⟩) wc14.h.a.length 2, .slice (some ⟨u5, 0, none⟩) wc14.b.length 2], [], rfl, tCl_mk (a (sl tTm (some ⟨u1, 0, none⟩) 2 wc14.h.a) (by repeat constructor)) (a (sl tLi (some ⟨u5, 0, none⟩) 2 wc14.b) (by repeat constructor)), rfl⟩) (by simp) ?_
    refine go_two ?_ ?_
    ·skip
     refine go_call (law13F 1 _ 2 2) rfl rfl (by rfl) rfl (by repeat constructor) (by repeat constructor) (fun _ v Ps' Os' hq => by obtain ⟨rfl, rfl, rfl⟩ := hq; exact satS (by repeat constructor) (by repeat constructor)) ?_
     rintro _ _ _ ⟨rfl, rfl, rfl⟩
     refine go_two ?_ ?_
     ·skip
      refine go_call (law13F 1 _ 2 2) rfl rfl (by rfl) rfl (by repeat constructor) (by repeat constructor) (fun _ v Ps' Os' hq => by obtain ⟨rfl, rfl, rfl⟩ := hq; exact satS (by repeat constructor) (by repeat constructor)) ?_
      rintro _ _ _ ⟨rfl, rfl, rfl⟩
      refine go_bslice Tk rfl rfl rfl rfl rfl rfl rfl rfl (fun _ _ => satA) ?_
      intro b78
      refine go_lit_int (kk := .u32) [12, 13] (by repeat constructor) (by simp) ?_
      refine go_call (law13F 1 _ 2 2) rfl rfl (by rfl) rfl (by repeat constructor) (by repeat constructor) (fun _ v Ps' Os' hq => by obtain ⟨rfl, rfl, rfl⟩ := hq; exact satS (by repeat constructor) (by repeat constructor)) ?_
      rintro _ _ _ ⟨rfl, rfl, rfl⟩
      refine go_pure1 Tk rfl rfl rfl ?_
      refine go_bslice Tk rfl rfl rfl rfl rfl rfl rfl rfl (fun _ _ => satA) ?_
      intro bf
      refine go_lit tFa (b := bf) wn14 (by repeat constructor) (fun hp a => ⟨[_, _], _, rfl, tFa_mk (x := (⟨1, [10, 11]⟩ : Fa)) (a (sl tU _ _ [10, 11]) (by repeat constructor)), [_, _], _, rfl, tFa_mk (x := (⟨1, [11, 12]⟩ : Fa)) (a (sl tU _ _ [11, 12]) (by repeat constructor)), [_, _], [], rfl, tFa_mk (x := (⟨1, [12, 13]⟩ : Fa)) (a (sl tU _ _ [12, 13]) (by repeat constructor)), rfl⟩) (by decide) ?_
      refine go_pure1 Tk rfl rfl rfl ?_
      refine go_nil ?_
      refine go_env [(0, _), (1, _)] ⟨rfl, rfl, trivial⟩ ?_
      refine go_ret ⟨rfl, rfl⟩ _ _ (res2 (by rfl) (.tmp rfl) (.tmp rfl)) ⟨_, _, rfl, rfl, rfl⟩ (by repeat constructor) (by repeat constructor)
     refine go_bslice Tk rfl rfl rfl rfl rfl rfl rfl rfl (fun _ _ => satA) ?_
     intro b79
     refine go_lit_int (kk := .u32) [12, 13] (by repeat constructor) (by simp) ?_
     refine go_call (law13F 1 _ 2 2) rfl rfl (by rfl) rfl (by repeat constructor) (by repeat constructor) (fun _ v Ps' Os' hq => by obtain ⟨rfl, rfl, rfl⟩ := hq; exact satS (by repeat constructor) (by repeat constructor)) ?_
     rintro _ _ _ ⟨rfl, rfl, rfl⟩
     refine go_call (law13F 1 _ 2 2) rfl rfl (by rfl) rfl (by repeat constructor) (by repeat constructor) (fun _ v Ps' Os' hq => by obtain ⟨rfl, rfl, rfl⟩ := hq; exact satS (by repeat constructor) (by repeat constructor)) ?_
     rintro _ _ _ ⟨rfl, rfl, rfl⟩
     refine go_pure1 Tk rfl rfl rfl ?_
     refine go_bslice Tk rfl rfl rfl rfl rfl rfl rfl rfl (fun _ _ => satA) ?_
     intro bf
     refine go_lit tFa (b := bf) wn14 (by repeat constructor) (fun hp a => ⟨[_, _], _, rfl, tFa_mk (x := (⟨1, [10, 11]⟩ : Fa)) (a (sl tU _ _ [10, 11]) (by repeat constructor)), [_, _], _, rfl, tFa_mk (x := (⟨1, [11, 12]⟩ : Fa)) (a (sl tU _ _ [11, 12]) (by repeat constructor)), [_, _], [], rfl, tFa_mk (x := (⟨1, [12, 13]⟩ : Fa)) (a (sl tU _ _ [12, 13]) (by repeat constructor)), rfl⟩) (by decide) ?_
     refine go_pure1 Tk rfl rfl rfl ?_
     refine go_nil ?_
     refine go_env [(0, _), (1, _)] ⟨rfl, rfl, trivial⟩ ?_
     refine go_ret ⟨rfl, rfl⟩ _ _ (res2 (by rfl) (.tmp rfl) (.tmp rfl)) ⟨_, _, rfl, rfl, rfl⟩ (by repeat constructor) (by repeat constructor)
    refine go_bslice Tk rfl rfl rfl rfl rfl rfl rfl rfl (fun _ _ => satA) ?_
    intro b80
    refine go_lit_int (kk := .u32) [12, 13] (by repeat constructor) (by simp) ?_
    refine go_call (law13F 1 _ 2 2) rfl rfl (by rfl) rfl (by repeat constructor) (by repeat constructor) (fun _ v Ps' Os' hq => by obtain ⟨rfl, rfl, rfl⟩ := hq; exact satS (by repeat constructor) (by repeat constructor)) ?_
    rintro _ _ _ ⟨rfl, rfl, rfl⟩
    refine go_call (law13F 1 _ 2 2) rfl rfl (by rfl) rfl (by repeat constructor) (by repeat constructor) (fun _ v Ps' Os' hq => by obtain ⟨rfl, rfl, rfl⟩ := hq; exact satS (by repeat constructor) (by repeat constructor)) ?_
    rintro _ _ _ ⟨rfl, rfl, rfl⟩
    refine go_call (law13F 1 _ 2 2) rfl rfl (by rfl) rfl (by repeat constructor) (by repeat constructor) (fun _ v Ps' Os' hq => by obtain ⟨rfl, rfl, rfl⟩ := hq; exact satS (by repeat constructor) (by repeat constructor)) ?_
    rintro _ _ _ ⟨rfl, rfl, rfl⟩
    refine go_pure1 Tk rfl rfl rfl ?_
    refine go_bslice Tk rfl rfl rfl rfl rfl rfl rfl rfl (fun _ _ => satA) ?_
    intro bf
    refine go_lit tFa (b := bf) wn14 (by repeat constructor) (fun hp a => ⟨[_, _], _, rfl, tFa_mk (x := (⟨1, [10, 11]⟩ : Fa)) (a (sl tU _ _ [10, 11]) (by repeat constructor)), [_, _], _, rfl, tFa_mk (x := (⟨1, [11, 12]⟩ : Fa)) (a (sl tU _ _ [11, 12]) (by repeat constructor)), [_, _], [], rfl, tFa_mk (x := (⟨1, [12, 13]⟩ : Fa)) (a (sl tU _ _ [12, 13]) (by repeat constructor)), rfl⟩) (by decide) ?_
    refine go_pure1 Tk rfl rfl rfl ?_
    refine go_nil ?_
    refine go_env [(0, _), (1, _)] ⟨rfl, rfl, trivial⟩ ?_
    refine go_ret ⟨rfl, rfl⟩ _ _ (res2 (by rfl) (.tmp rfl) (.tmp rfl)) ⟨_, _, rfl, rfl, rfl⟩ (by repeat constructor) (by repeat constructor)
   refine go_two ?_ ?_
   ·skip
    refine go_call (law13F 1 _ 2 2) rfl rfl (by rfl) rfl (by repeat constructor) (by repeat constructor) (fun _ v Ps' Os' hq => by obtain ⟨rfl, rfl, rfl⟩ := hq; exact satS (by repeat constructor) (by repeat constructor)) ?_
    rintro _ _ _ ⟨rfl, rfl, rfl⟩
    refine go_two ?_ ?_
    ·skip
     refine go_bslice Tk rfl rfl rfl rfl rfl rfl rfl rfl (fun h => nomatch h) ?_
     intro bs
     refine go_lit tCl (b := bs) [wc14] (by repeat constructor) (fun hp a => ⟨[.int .u32 wc14.h.p, .slice (some ⟨u1, 0, none⟩) wc14.h.a.length 2, .slice (some ⟨u5, 0, none⟩) wc14.b.length 2], [], rfl, tCl_mk (a (sl tTm (some ⟨u1, 0, none⟩) 2 wc14.h.a) (by repeat constructor)) (a (sl tLi (some ⟨u5, 0, none⟩) 2 wc14.b) (by repeat constructor)), rfl⟩) (by simp) ?_
     refine go_two ?_ ?_
     ·skip
      refine go_call (law13F 1 _ 2 2) rfl rfl (by rfl) rfl (by repeat constructor) (by repeat constructor) (fun _ v Ps' Os' hq => by obtain ⟨rfl, rfl, rfl⟩ := hq; exact satS (by repeat constructor) (by repeat constructor)) ?_
      rintro _ _ _ ⟨rfl, rfl, rfl⟩
      refine go_bslice Tk rfl rfl rfl rfl rfl rfl rfl rfl (fun _ _ => satA) ?_
      intro b81
      refine go_lit_int (kk := .u32) [12, 13] (by repeat constructor) (by simp) ?_
      refine go_call (law13F 1 _ 2 2) rfl rfl (by rfl) rfl (by repeat constructor) (by repeat constructor) (fun _ v Ps' Os' hq => by obtain ⟨rfl, rfl, rfl⟩ := hq; exact satS (by repeat constructor) (by repeat constructor)) ?_
      rintro _ _ _ ⟨rfl, rfl, rfl⟩
      refine go_pure1 Tk rfl rfl rfl ?_
      refine go_bslice Tk rfl rfl rfl rfl rfl rfl rfl rfl (fun _ _ => satA) ?_
      intro bf
      refine go_lit tFa (b := bf) wn14 (by repeat constructor) (fun hp a => ⟨[_, _], _, rfl, tFa_mk (x := (⟨1, [10, 11]⟩ : Fa)) (a (sl tU _ _ [10, 11]) (by repeat constructor)), [_, _], _, rfl, tFa_mk (x := (⟨1, [11, 12]⟩ : Fa)) (a (sl tU _ _ [11, 12]) (by repeat constructor)), [_, _], [], rfl, tFa_mk (x := (⟨1, [12, 13]⟩ : Fa)) (a (sl tU _ _ [12, 13]) (by repeat constructor)), rfl⟩) (by decide) ?_
      refine go_pure1 Tk rfl rfl rfl ?_
      refine go_nil ?_
      refine go_env [(0, _), (1, _)] ⟨rfl, rfl, trivial⟩ ?_
      refine go_ret ⟨rfl, rfl⟩ _ _ (res2 (by rfl) (.tmp rfl) (.tmp rfl)) ⟨_, _, rfl, rfl, rfl⟩ (by repeat constructor) (by repeat constructor)
     refine go_bslice Tk rfl rfl rfl rfl rfl rfl rfl rfl (fun _ _ => satA) ?_
     intro b82
     refine go_lit_int (kk := .u32) [12, 13] (by repeat constructor) (by simp) ?_
     refine go_call (law13F 1 _ 2 2) rfl rfl (by rfl) rfl (by repeat constructor) (by repeat constructor) (fun _ v Ps' Os' hq => by obtain ⟨rfl, rfl, rfl⟩ := hq; exact satS (by repeat constructor) (by repeat constructor)) ?_
     rintro _ _ _ ⟨rfl, rfl, rfl⟩
     refine go_call (law13F 1 _ 2 2) rfl rfl (by rfl) rfl (by repeat constructor) (by repeat constructor) (fun _ v Ps' Os' hq => by obtain ⟨rfl, rfl, rfl⟩ := hq; exact satS (by repeat constructor) (by repeat constructor)) ?_
     rintro _ _ _ ⟨rfl, rfl, rfl⟩
     refine go_pure1 Tk rfl rfl rfl ?_
     refine go_bslice Tk rfl rfl rfl rfl rfl rfl rfl rfl (fun _ _ => satA) ?_
     intro bf
     refine go_lit tFa (b := bf) wn14 (by repeat constructor) (fun hp a => ⟨[_, _], _, rfl, tFa_mk (x := (⟨1, [10, 11]⟩ : Fa)) (a (sl tU _ _ [10, 11]) (by repeat constructor)), [_, _], _, rfl, tFa_mk (x := (⟨1, [11, 12]⟩ : Fa)) (a (sl tU _ _ [11, 12]) (by repeat constructor)), [_, _], [], rfl, tFa_mk (x := (⟨1, [12, 13]⟩ : Fa)) (a (sl tU _ _ [12, 13]) (by repeat constructor)), rfl⟩) (by decide) ?_
     refine go_pure1 Tk rfl rfl rfl ?_
     refine go_nil ?_
     refine go_env [(0, _), (1, _)] ⟨rfl, rfl, trivial⟩ ?_
     refine go_ret ⟨rfl, rfl⟩ _ _ (res2 (by rfl) (.tmp rfl) (.tmp rfl)) ⟨_, _, rfl, rfl, rfl⟩ (by repeat constructor) (by repeat constructor)
    refine go_two ?_ ?_
    ·skip
     refine go_call (law13F 1 _ 2 2) rfl rfl (by rfl) rfl (by repeat constructor) (by repeat constructor) (fun _ v Ps' Os' hq => by obtain ⟨rfl, rfl, rfl⟩ := hq; exact satS (by repeat constructor) (by repeat constructor)) ?_
     rintro _ _ _ ⟨rfl, rfl, rfl⟩
     refine go_two ?_ ?_
     ·skip
      refine go_bslice Tk rfl rfl rfl rfl rfl rfl rfl rfl (fun h => nomatch h) ?_
      intro bs
      refine go_lit tCl (b := bs) [wc14] (by repeat constructor) (fun hp a => ⟨[.int .u32 wc14.h.p, .slice (some ⟨u1, 0, none⟩) wc14.h.a.length 2, .slice (some ⟨u5, 0, none⟩) wc14.b.length 2], [], rfl, tCl_mk (a (sl tTm (some ⟨u1, 0, none⟩) 2 wc14.h.a) (by repeat constructor)) (a (sl tLi (some ⟨u5, 0, none⟩) 2 wc14.b) (by repeat constructor)), rfl⟩) (by simp) ?_
      refine go_bslice Tk rfl rfl rfl rfl rfl rfl rfl rfl (fun _ _ => satA) ?_
      intro b83
      refine go_lit_int (kk := .u32) [12, 13] (by repeat constructor) (by simp) ?_
      refine go_call (law13F 1 _ 2 2) rfl rfl (by rfl) rfl (by repeat constructor) (by repeat constructor) (fun _ v Ps' Os' hq => by obtain ⟨rfl, rfl, rfl⟩ := hq; exact satS (by repeat constructor) (by repeat constructor)) ?_
      rintro _ _ _ ⟨rfl, rfl, rfl⟩
      refine go_pure1 Tk rfl rfl rfl ?_
      refine go_bslice Tk rfl rfl rfl rfl rfl rfl rfl rfl (fun _ _ => satA) ?_
      intro bf
      refine go_lit tFa (b := bf) wn14 (by repeat constructor) (fun hp a => ⟨[_, _], _, rfl, tFa_mk (x := (⟨1, [10, 11]⟩ : Fa)) (a (sl tU _ _ [10, 11]) (by repeat constructor)), [_, _], _, rfl, tFa_mk (x := (⟨1, [11, 12]⟩ : Fa)) (a (sl tU _ _ [11, 12]) (by repeat constructor)), [_, _], [], rfl, tFa_mk (x := (⟨1, [12, 13]⟩ : Fa)) (a (sl tU _ _ [12, 13]) (by repeat constructor)), rfl⟩) (by decide) ?_
      refine go_pure1 Tk rfl rfl rfl ?_
      refine go_nil ?_
      refine go_env [(0, _), (1, _)] ⟨rfl, rfl, trivial⟩ ?_
      refine go_ret ⟨rfl, rfl⟩ _ _ (res2 (by rfl) (.tmp rfl) (.tmp rfl)) ⟨_, _, rfl, rfl, rfl⟩ (by repeat constructor) (by repeat constructor)
     refine go_bslice Tk rfl rfl rfl rfl rfl rfl rfl rfl (fun _ _ => satA) ?_
     intro b84
     refine go_lit_int (kk := .u32) [12, 13] (by repeat constructor) (by simp) ?_
     refine go_two ?_ ?_
     ·skip
      refine go_bslice Tk rfl rfl rfl rfl rfl rfl rfl rfl (fun h => nomatch h) ?_
      intro bs
      refine go_lit tCl (b := bs) [wc14] (by repeat constructor) (fun hp a => ⟨[.int .u32 wc14.h.p, .slice (some ⟨u1, 0, none⟩) wc14.h.a.length 2, .slice (some ⟨u5, 0, none⟩) wc14.b.length 2], [], rfl, tCl_mk (a (sl tTm (some ⟨u1, 0, none⟩) 2 wc14.h.a) (by repeat constructor)) (a (sl tLi (some ⟨u5, 0, none⟩) 2 wc14.b) (by repeat constructor)), rfl⟩) (by simp) ?_
      refine go_call (law13F 1 _ 2 2) rfl rfl (by rfl) rfl (by repeat constructor) (by repeat constructor) (fun _ v Ps' Os' hq => by obtain ⟨rfl, rfl, rfl⟩ := hq; exact satS (by repeat constructor) (by repeat constructor)) ?_
      rintro _ _ _ ⟨rfl, rfl, rfl⟩
      refine go_pure1 Tk rfl rfl rfl ?_
      refine go_bslice Tk rfl rfl rfl rfl rfl rfl rfl rfl (fun _ _ => satA) ?_
      intro bf
      refine go_lit tFa (b := bf) wn14 (by repeat constructor) (fun hp a => ⟨[_, _], _, rfl, tFa_mk (x := (⟨1, [10, 11]⟩ : Fa)) (a (sl tU _ _ [10, 11]) (by repeat constructor)), [_, _], _, rfl, tFa_mk (x := (⟨1, [11, 12]⟩ : Fa)) (a (sl tU _ _ [11, 12]) (by repeat constructor)), [_, _], [], rfl, tFa_mk (x := (⟨1, [12, 13]⟩ : Fa)) (a (sl tU _ _ [12, 13]) (by repeat constructor)), rfl⟩) (by decide) ?_
      refine go_pure1 Tk rfl rfl rfl ?_
      refine go_nil ?_
      refine go_env [(0, _), (1, _)] ⟨rfl, rfl, trivial⟩ ?_
      refine go_ret ⟨rfl, rfl⟩ _ _ (res2 (by rfl) (.tmp rfl) (.tmp rfl)) ⟨_, _, rfl, rfl, rfl⟩ (by repeat constructor) (by repeat constructor)
     refine go_call (law13F 1 _ 2 2) rfl rfl (by rfl) rfl (by repeat constructor) (by repeat constructor) (fun _ v Ps' Os' hq => by obtain ⟨rfl, rfl, rfl⟩ := hq; exact satS (by repeat constructor) (by repeat constructor)) ?_
     rintro _ _ _ ⟨rfl, rfl, rfl⟩
     refine go_two ?_ ?_
     ·skip
      refine go_bslice Tk rfl rfl rfl rfl rfl rfl rfl rfl (fun h => nomatch h) ?_
      intro bs
      refine go_lit tCl (b := bs) [wc14] (by repeat constructor) (fun hp a => ⟨[.int .u32 wc14.h.p, .slice (some ⟨u1, 0, none⟩) wc14.h.a.length 2, .slice (some ⟨u5, 0, none⟩) wc14.b.length 2], [], rfl, tCl_mk (a (sl tTm (some ⟨u1, 0, none⟩) 2 wc14.h.a) (by repeat constructor)) (a (sl tLi (some ⟨u5, 0, none⟩) 2 wc14.b) (by repeat constructor)), rfl⟩) (by simp) ?_
      refine go_pure1 Tk rfl rfl rfl ?_
      refine go_bslice Tk rfl rfl rfl rfl rfl rfl rfl rfl (fun _ _ => satA) ?_
      intro bf
      refine go_lit tFa (b := bf) wn14 (by repeat constructor) (fun hp a => ⟨[_, _], _, rfl, tFa_mk (x := (⟨1, [10, 11]⟩ : Fa)) (a (sl tU _ _ [10, 11]) (by repeat constructor)), [_, _], _, rfl, tFa_mk (x := (⟨1, [11, 12]⟩ : Fa)) (a (sl tU _ _ [11, 12]) (by repeat constructor)), [_, _], [], rfl, tFa_mk (x := (⟨1, [12, 13]⟩ : Fa)) (a (sl tU _ _ [12, 13]) (by repeat constructor)), rfl⟩) (by decide) ?_
      refine go_pure1 Tk rfl rfl rfl ?_
      refine go_nil ?_
      refine go_env [(0, _), (1, _)] ⟨rfl, rfl, trivial⟩ ?_
      refine go_ret ⟨rfl, rfl⟩ _ _ (res2 (by rfl) (.tmp rfl) (.tmp rfl)) ⟨_, _, rfl, rfl, rfl⟩ (by repeat constructor) (by repeat constructor)
     refine go_bslice Tk rfl rfl rfl rfl rfl rfl rfl rfl (fun _ _ => satA) ?_
     intro bf
     refine go_lit tFa (b := bf) wn14 (by repeat constructor) (fun hp a => ⟨[_, _], _, rfl, tFa_mk (x := (⟨1, [10, 11]⟩ : Fa)) (a (sl tU _ _ [10, 11]) (by repeat constructor)), [_, _], _, rfl, tFa_mk (x := (⟨1, [11, 12]⟩ : Fa)) (a (sl tU _ _ [11, 12]) (by repeat constructor)), [_, _], [], rfl, tFa_mk (x := (⟨1, [12, 13]⟩ : Fa)) (a (sl tU _ _ [12, 13]) (by repeat constructor)), rfl⟩) (by decide) ?_
     refine go_bslice Tk rfl rfl rfl rfl rfl rfl rfl rfl (fun h => nomatch h) ?_
     intro bs
     refine go_lit tCl (b := bs) [wc14] (by repeat constructor) (fun hp a => ⟨[.int .u32 wc14.h.p, .slice (some ⟨u1, 0, none⟩) wc14.h.a.length 2, .slice (some ⟨u5, 0, none⟩) wc14.b.length 2], [], rfl, tCl_mk (a (sl tTm (some ⟨u1, 0, none⟩) 2 wc14.h.a) (by repeat constructor)) (a (sl tLi (some ⟨u5, 0, none⟩) 2 wc14.b) (by repeat constructor)), rfl⟩) (by simp) ?_
     iterate 2 refine go_pure1 Tk rfl rfl rfl ?_
     refine go_nil ?_
     refine go_env [(0, _), (1, _)] ⟨rfl, rfl, trivial⟩ ?_
     refine go_ret ⟨rfl, rfl⟩ _ _ (res2 (by rfl) (.tmp rfl) (.tmp rfl)) ⟨_, _, rfl, rfl, rfl⟩ (by repeat constructor) (by repeat constructor)
    refine go_bslice Tk rfl rfl rfl rfl rfl rfl rfl rfl (fun _ _ => satA) ?_
    intro b85
    refine go_lit_int (kk := .u32) [12, 13] (by repeat constructor) (by simp) ?_
    refine go_two ?_ ?_
    ·skip
     refine go_bslice Tk rfl rfl rfl rfl rfl rfl rfl rfl (fun h => nomatch h) ?_
     intro bs
     refine go_lit tCl (b := bs) [wc14] (by repeat constructor) (fun hp a => ⟨[.int .u32 wc14.h.p, .slice (some ⟨u1, 0, none⟩) wc14.h.a.length 2, .slice (some ⟨u5, 0, none⟩) wc14.b.length 2], [], rfl, tCl_mk (a (sl tTm (some ⟨u1, 0, none⟩) 2 wc14.h.a) (by repeat constructor)) (a (sl tLi (some ⟨u5, 0, none⟩) 2 wc14.b) (by repeat constructor)), rfl⟩) (by simp) ?_
     refine go_call (law13F 1 _ 2 2) rfl rfl (by rfl) rfl (by repeat constructor) (by repeat constructor) (fun _ v Ps' Os' hq => by obtain ⟨rfl, rfl, rfl⟩ := hq; exact satS (by repeat constructor) (by repeat constructor)) ?_
     rintro _ _ _ ⟨rfl, rfl, rfl⟩
     refine go_call (law13F 1 _ 2 2) rfl rfl (by rfl) rfl (by repeat constructor) (by repeat constructor) (fun _ v Ps' Os' hq => by obtain ⟨rfl, rfl, rfl⟩ := hq; exact satS (by repeat constructor) (by repeat constructor)) ?_
     rintro _ _ _ ⟨rfl, rfl, rfl⟩
     refine go_pure1 Tk rfl rfl rfl ?_
     refine go_bslice Tk rfl rfl rfl rfl rfl rfl rfl rfl (fun _ _ => satA) ?_
     intro bf
     refine go_lit tFa (b := bf) wn14 (by repeat constructor) (fun hp a => ⟨[_, _], _, rfl, tFa_mk (x := (⟨1, [10, 11]⟩ : Fa)) (a (sl tU _ _ [10, 11]) (by repeat constructor)), [_, _], _, rfl, tFa_mk (x := (⟨1, [11, 12]⟩ : Fa)) (a (sl tU _ _ [11, 12]) (by repeat constructor)), [_, _], [], rfl, tFa_mk (x := (⟨1, [12, 13]⟩ : Fa)) (a (sl tU _ _ [12, 13]) (by repeat constructor)), rfl⟩) (by decide) ?_
     refine go_pure1 Tk rfl rfl rfl ?_
     refine go_nil ?_
     refine go_env [(0, _), (1, _)] ⟨rfl, rfl, trivial⟩ ?_
     refine go_ret ⟨rfl, rfl⟩ _ _ (res2 (by rfl) (.tmp rfl) (.tmp rfl)) ⟨_, _, rfl, rfl, rfl⟩ (by repeat constructor) (by repeat constructor)
    refine go_call (law13F 1 _ 2 2) rfl rfl (by rfl) rfl (by repeat constructor) (by repeat constructor) (fun _ v Ps' Os' hq => by obtain ⟨rfl, rfl, rfl⟩ := hq; exact satS (by repeat constructor) (by repeat constructor)) ?_
    rintro _ _ _ ⟨rfl, rfl, rfl⟩
    refine go_two ?_ ?_
    ·skip
     refine go_bslice Tk rfl rfl rfl rfl rfl rfl rfl rfl (fun h => nomatch h) ?_
     intro bs
     refine go_lit tCl (b := bs) [wc14] (by repeat constructor) (fun hp a => ⟨[.int .u32 wc14.h.p, .slice (some ⟨u1, 0, none⟩) wc14.h.a.length 2, .slice (some ⟨u5, 0, none⟩) wc14.b.length 2], [], rfl, tCl_mk (a (sl tTm (some ⟨u1, 0, none⟩) 2 wc14.h.a) (by repeat constructor)) (a (sl tLi (some ⟨u5, 0, none⟩) 2 wc14.b) (by repeat constructor)), rfl⟩) (by simp) ?_
     refine go_call (law13F 1 _ 2 2) rfl rfl (by rfl) rfl (by repeat constructor) (by repeat constructor) (fun _ v Ps' Os' hq => by obtain ⟨rfl, rfl, rfl⟩ := hq; exact satS (by repeat constructor) (by repeat constructor)) ?_
     rintro _ _ _ ⟨rfl, rfl, rfl⟩
     refine go_pure1 Tk rfl rfl rfl ?_
     refine go_bslice Tk rfl rfl rfl rfl rfl rfl rfl rfl (fun _ _ => satA) ?_
     intro bf
     refine go_lit tFa (b := bf) wn14 (by repeat constructor) (fun hp a => ⟨[_, _], _, rfl, tFa_mk (x := (⟨1, [10, 11]⟩ : Fa)) (a (sl tU _ _ [10, 11]) (by repeat constructor)), [_, _], _, rfl, tFa_mk (x := (⟨1, [11, 12]⟩ : Fa)) (a (sl tU _ _ [11, 12]) (by repeat constructor)), [_, _], [], rfl, tFa_mk (x := (⟨1, [12, 13]⟩ : Fa)) (a (sl tU _ _ [12, 13]) (by repeat constructor)), rfl⟩) (by decide) ?_
     refine go_pure1 Tk rfl rfl rfl ?_
     refine go_nil ?_
     refine go_env [(0, _), (1, _)] ⟨rfl, rfl, trivial⟩ ?_
     refine go_ret ⟨rfl, rfl⟩ _ _ (res2 (by rfl) (.tmp rfl) (.tmp rfl)) ⟨_, _, rfl, rfl, rfl⟩ (by repeat constructor) (by repeat constructor)
    refine go_call (law13F 1 _ 2 2) rfl rfl (by rfl) rfl (by repeat constructor) (by repeat constructor) (fun _ v Ps' Os' hq => by obtain ⟨rfl, rfl, rfl⟩ := hq; exact satS (by repeat constructor) (by repeat constructor)) ?_
    rintro _ _ _ ⟨rfl, rfl, rfl⟩
    refine go_two ?_ ?_
    ·skip
     refine go_bslice Tk rfl rfl rfl rfl rfl rfl rfl rfl (fun h => nomatch h) ?_
     intro bs
     refine go_lit tCl (b := bs) [wc14] (by repeat constructor) (fun hp a => ⟨[.int .u32 wc14.h.p, .slice (some ⟨u1, 0, none⟩) wc14.h.a.length 2, .slice (some ⟨u5, 0, none⟩) wc14.b.length 2], [], rfl, tCl_mk (a (sl tTm (some ⟨u1, 0, none⟩) 2 wc14.h.a) (by repeat constructor)) (a (sl tLi (some ⟨u5, 0, none⟩) 2 wc14.b) (by repeat constructor)), rfl⟩) (by simp) ?_
     refine go_pure1 Tk rfl rfl rfl ?_
     refine go_bslice Tk rfl rfl rfl rfl rfl rfl rfl rfl (fun _ _ => satA) ?_
     intro bf
     refine go_lit tFa (b := bf) wn14 (by repeat constructor) (fun hp a => ⟨[_, _], _, rfl, tFa_mk (x := (⟨1, [10, 11]⟩ : Fa)) (a (sl tU _ _ [10, 11]) (by repeat constructor)), [_, _], _, rfl, tFa_mk (x := (⟨1, [11, 12]⟩ : Fa)) (a (sl tU _ _ [11, 12]) (by repeat constructor)), [_, _], [], rfl, tFa_mk (x := (⟨1, [12, 13]⟩ : Fa)) (a (sl tU _ _ [12, 13]) (by repeat constructor)), rfl⟩) (by decide) ?_
     refine go_pure1 Tk rfl rfl rfl ?_
     refine go_nil ?_
     refine go_env [(0, _), (1, _)] ⟨rfl, rfl, trivial⟩ ?_
     refine go_ret ⟨rfl, rfl⟩ _ _ (res2 (by rfl) (.tmp rfl) (.tmp rfl)) ⟨_, _, rfl, rfl, rfl⟩ (by repeat constructor) (by repeat constructor)
    refine go_bslice Tk rfl rfl rfl rfl rfl rfl rfl rfl (fun _ _ => satA) ?_
    intro bf
    refine go_lit tFa (b := bf) wn14 (by repeat constructor) (fun hp a => ⟨[_, _], _, rfl, tFa_mk (x := (⟨1, [10, 11]⟩ : Fa)) (a (sl tU _ _ [10, 11]) (by repeat constructor)), [_, _], _, rfl, tFa_mk (x := (⟨1, [11, 12]⟩ : Fa)) (a (sl tU _ _ [11, 12]) (by repeat constructor)), [_, _], [], rfl, tFa_mk (x := (⟨1, [12, 13]⟩ : Fa)) (a (sl tU _ _ [12, 13]) (by repeat constructor)), rfl⟩) (by decide) ?_
    refine go_bslice Tk rfl rfl rfl rfl rfl rfl rfl rfl (fun h => nomatch h) ?_
    intro bs
    refine go_lit tCl (b := bs) [wc14] (by repeat constructor) (fun hp a => ⟨[.int .u32 wc14.h.p, .slice (some ⟨u1, 0, none⟩) wc14.h.a.length 2, .slice (some ⟨u5, 0, none⟩) wc14.b.length 2], [], rfl, tCl_mk (a (sl tTm (some ⟨u1, 0, none⟩) 2 wc14.h.a) (by repeat constructor)) (a (sl tLi (some ⟨u5, 0, none⟩) 2 wc14.b) (by repeat constructor)), rfl⟩) (by simp) ?_
    iterate 2 refine go_pure1 Tk rfl rfl rfl ?_
    refine go_nil ?_
    refine go_env [(0, _), (1, _)] ⟨rfl, rfl, trivial⟩ ?_
    refine go_ret ⟨rfl, rfl⟩ _ _ (res2 (by rfl) (.tmp rfl) (.tmp rfl)) ⟨_, _, rfl, rfl, rfl⟩ (by repeat constructor) (by repeat constructor)
   refine go_bslice Tk rfl rfl rfl rfl rfl rfl rfl rfl (fun _ _ => satA) ?_
   intro b86
   refine go_lit_int (kk := .u32) [12, 13] (by repeat constructor) (by simp) ?_
   refine go_two ?_ ?_
   ·skip
    refine go_bslice Tk rfl rfl rfl rfl rfl rfl rfl rfl (fun h => nomatch h) ?_
    intro bs
    refine go_lit tCl (b := bs) [wc14] (by repeat constructor) (fun hp a => ⟨[.int .u32 wc14.h.p, .slice (some ⟨u1, 0, none⟩) wc14.h.a.length 2, .slice (some ⟨u5, 0, none⟩) wc14.b.length 2], [], rfl, tCl_mk (a (sl tTm (some ⟨u1, 0, none⟩) 2 wc14.h.a) (by repeat constructor)) (a (sl tLi (some ⟨u5, 0, none⟩) 2 wc14.b) (by repeat constructor)), rfl⟩) (by simp) ?_
    refine go_call (law13F 1 _ 2 2) rfl rfl (by rfl) rfl (by repeat constructor) (by repeat constructor) (fun _ v Ps' Os' hq => by obtain ⟨rfl, rfl, rfl⟩ := hq; exact satS (by repeat constructor) (by repeat constructor)) ?_
    rintro _ _ _ ⟨rfl, rfl, rfl⟩
    refine go_call (law13F 1 _ 2 2) rfl rfl (by rfl) rfl (by repeat constructor) (by repeat constructor) (fun _ v Ps' Os' hq => by obtain ⟨rfl, rfl, rfl⟩ := hq; exact satS (by repeat constructor) (by repeat constructor)) ?_
    rintro _ _ _ ⟨rfl, rfl, rfl⟩
    refine go_call (law13F 1 _ 2 2) rfl rfl (by rfl) rfl (by repeat constructor) (by repeat constructor) (fun _ v Ps' Os' hq => by obtain ⟨rfl, rfl, rfl⟩ := hq; exact satS (by repeat constructor) (by repeat constructor)) ?_
    rintro _ _ _ ⟨rfl, rfl, rfl⟩
    refine go_pure1 Tk rfl rfl rfl ?_
    refine go_bslice Tk rfl rfl rfl rfl rfl rfl rfl rfl (fun _ _ => satA) ?_
    intro bf
    refine go_lit tFa (b := bf) wn14 (by repeat constructor) (fun hp a => ⟨[_, _], _, rfl, tFa_mk (x := (⟨1, [10, 11]⟩ : Fa)) (a (sl tU _ _ [10, 11]) (by repeat constructor)), [_, _], _, rfl, tFa_mk (x := (⟨1, [11, 12]⟩ : Fa)) (a (sl tU _ _ [11, 12]) (by repeat constructor)), [_, _], [], rfl, tFa_mk (x := (⟨1, [12, 13]⟩ : Fa)) (a (sl tU _ _ [12, 13]) (by repeat constructor)), rfl⟩) (by decide) ?_
    refine go_pure1 Tk rfl rfl rfl ?_
    refine go_nil ?_
    refine go_env [(0, _), (1, _)] ⟨rfl, rfl, trivial⟩ ?_
    refine go_ret ⟨rfl, rfl⟩ _ _ (res2 (by rfl) (.tmp rfl) (.tmp rfl)) ⟨_, _, rfl, rfl, rfl⟩ (by repeat constructor) (by repeat constructor)
   refine go_call (law13F 1 _ 2 2) rfl rfl (by rfl) rfl (by repeat constructor) (by repeat constructor) (fun _ v Ps' Os' hq => by obtain ⟨rfl, rfl, rfl⟩ := hq; exact satS (by repeat constructor) (by repeat constructor)) ?_
   rintro _ _ _ ⟨rfl, rfl, rfl⟩
   refine go_two ?_ ?_
   ·skip
    refine go_bslice Tk rfl rfl rfl rfl rfl rfl rfl rfl (fun h => nomatch h) ?_
    intro bs
    refine go_lit tCl (b := bs) [wc14] (by repeat constructor) (fun hp a => ⟨[.int .u32 wc14.h.p, .slice (some ⟨u1, 0, none⟩) wc14.h.a.length 2, .slice (some ⟨u5, 0, none⟩) wc14.b.length 2], [], rfl, tCl_mk (a (sl tTm (some ⟨u1, 0, none⟩) 2 wc14.h.a) (by repeat constructor)) (a (sl tLi (some ⟨u5, 0, none⟩) 2 wc14.b) (by repeat constructor)), rfl⟩) (by simp) ?_
    refine go_call (law13F 1 _ 2 2) rfl rfl (by rfl) rfl (by repeat constructor) (by repeat constructor) (fun _ v Ps' Os' hq => by obtain ⟨rfl, rfl, rfl⟩ := hq; exact satS (by repeat constructor) (by repeat constructor)) ?_
    rintro _ _ _ ⟨rfl, rfl, rfl⟩
    refine go_call (law13F 1 _ 2 2) rfl rfl (by rfl) rfl (by repeat constructor) (by repeat constructor) (fun _ v Ps' Os' hq => by obtain ⟨rfl, rfl, rfl⟩ := hq; exact satS (by repeat constructor) (by repeat constructor)) ?_
    rintro _ _ _ ⟨rfl, rfl, rfl⟩
    refine go_pure1 Tk rfl rfl rfl ?_
    refine go_bslice Tk rfl rfl rfl rfl rfl rfl rfl rfl (fun _ _ => satA) ?_
    intro bf
    refine go_lit tFa (b := bf) wn14 (by repeat constructor) (fun hp a => ⟨[_, _], _, rfl, tFa_mk (x := (⟨1, [10, 11]⟩ : Fa)) (a (sl tU _ _ [10, 11]) (by repeat constructor)), [_, _], _, rfl, tFa_mk (x := (⟨1, [11, 12]⟩ : Fa)) (a (sl tU _ _ [11, 12]) (by repeat constructor)), [_, _], [], rfl, tFa_mk (x := (⟨1, [12, 13]⟩ : Fa)) (a (sl tU _ _ [12, 13]) (by repeat constructor)), rfl⟩) (by decide) ?_
    refine go_pure1 Tk rfl rfl rfl ?_
    refine go_nil ?_
    refine go_env [(0, _), (1, _)] ⟨rfl, rfl, trivial⟩ ?_
    refine go_ret ⟨rfl, rfl⟩ _ _ (res2 (by rfl) (.tmp rfl) (.tmp rfl)) ⟨_, _, rfl, rfl, rfl⟩ (by repeat constructor) (by repeat constructor)
   refine go_call (law13F 1 _ 2 2) rfl rfl (by rfl) rfl (by repeat constructor) (by repeat constructor) (fun _ v Ps' Os' hq => by obtain ⟨rfl, rfl, rfl⟩ := hq; exact satS (by repeat constructor) (by repeat constructor)) ?_
   rintro _ _ _ ⟨rfl, rfl, rfl⟩
   refine go_two ?_ ?_
   ·skip
    refine go_bslice Tk rfl rfl rfl rfl rfl rfl rfl rfl (fun h => nomatch h) ?_
    intro bs
    refine go_lit tCl (b := bs) [wc14] (by repeat constructor) (fun hp a => ⟨[.int .u32 wc14.h.p, .slice (some ⟨u1, 0, none⟩) wc14.h.a.length 2, .slice (some ⟨u5, 0, none⟩) wc14.b.length 2], [], rfl, tCl_mk (a (sl tTm (some ⟨u1, 0, none⟩) 2 wc14.h.a) (by repeat constructor)) (a (sl tLi (some ⟨u5, 0, none⟩) 2 wc14.b) (by repeat constructor)), rfl⟩) (by simp) ?_
    refine go_call (law13F 1 _ 2 2) rfl rfl (by rfl) rfl (by repeat constructor) (by repeat constructor) (fun _ v Ps' Os' hq => by obtain ⟨rfl, rfl, rfl⟩ := hq; exact satS (by repeat constructor) (by repeat constructor)) ?_
    rintro _ _ _ ⟨rfl, rfl, rfl⟩
    refine go_pure1 Tk rfl rfl rfl ?_
    refine go_bslice Tk rfl rfl rfl rfl rfl rfl rfl rfl (fun _ _ => satA) ?_
    intro bf
    refine go_lit tFa (b := bf) wn14 (by repeat constructor) (fun hp a => ⟨[_, _], _, rfl, tFa_mk (x := (⟨1, [10, 11]⟩ : Fa)) (a (sl tU _ _ [10, 11]) (by repeat constructor)), [_, _], _, rfl, tFa_mk (x := (⟨1, [11, 12]⟩ : Fa)) (a (sl tU _ _ [11, 12]) (by repeat constructor)), [_, _], [], rfl, tFa_mk (x := (⟨1, [12, 13]⟩ : Fa)) (a (sl tU _ _ [12, 13]) (by repeat constructor)), rfl⟩) (by decide) ?_
    refine go_pure1 Tk rfl rfl rfl ?_
    refine go_nil ?_
    refine go_env [(0, _), (1, _)] ⟨rfl, rfl, trivial⟩ ?_
    refine go_ret ⟨rfl, rfl⟩ _ _ (res2 (by rfl) (.tmp rfl) (.tmp rfl)) ⟨_, _, rfl, rfl, rfl⟩ (by repeat constructor) (by repeat constructor)
   refine go_call (law13F 1 _ 2 2) rfl rfl (by rfl) rfl (by repeat constructor) (by repeat constructor) (fun _ v Ps' Os' hq => by obtain ⟨rfl, rfl, rfl⟩ := hq; exact satS (by repeat constructor) (by repeat constructor)) ?_
   rintro _ _ _ ⟨rfl, rfl, rfl⟩
   refine go_two ?_ ?_
   ·skip
    refine go_bslice Tk rfl rfl rfl rfl rfl rfl rfl rfl (fun h => nomatch h) ?_
    intro bs
    refine go_lit tCl (b := bs) [wc14] (by repeat constructor) (fun hp a => ⟨[.int .u32 wc14.h.p, .slice (some ⟨u1, 0, none⟩) wc14.h.a.length 2, .slice (some ⟨u5, 0, none⟩) wc14.b.length 2], [], rfl, tCl_mk (a (sl tTm (some ⟨u1, 0, none⟩) 2 wc14.h.a) (by repeat constructor)) (a (sl tLi (some ⟨u5, 0, none⟩) 2 wc14.b) (by repeat constructor)), rfl⟩) (by simp) ?_
    refine go_pure1 Tk rfl rfl rfl ?_
    refine go_bslice Tk rfl rfl rfl rfl rfl rfl rfl rfl (fun _ _ => satA) ?_
    intro bf
    refine go_lit tFa (b := bf) wn14 (by repeat constructor) (fun hp a => ⟨[_, _], _, rfl, tFa_mk (x := (⟨1, [10, 11]⟩ : Fa)) (a (sl tU _ _ [10, 11]) (by repeat constructor)), [_, _], _, rfl, tFa_mk (x := (⟨1, [11, 12]⟩ : Fa)) (a (sl tU _ _ [11, 12]) (by repeat constructor)), [_, _], [], rfl, tFa_mk (x := (⟨1, [12, 13]⟩ : Fa)) (a (sl tU _ _ [12, 13]) (by repeat constructor)), rfl⟩) (by decide) ?_
    refine go_pure1 Tk rfl rfl rfl ?_
    refine go_nil ?_
    refine go_env [(0, _), (1, _)] ⟨rfl, rfl, trivial⟩ ?_
    refine go_ret ⟨rfl, rfl⟩ _ _ (res2 (by rfl) (.tmp rfl) (.tmp rfl)) ⟨_, _, rfl, rfl, rfl⟩ (by repeat constructor) (by repeat constructor)
   refine go_bslice Tk rfl rfl rfl rfl rfl rfl rfl rfl (fun _ _ => satA) ?_
   intro bf
   refine go_lit tFa (b := bf) wn14 (by repeat constructor) (fun hp a => ⟨[_, _], _, rfl, tFa_mk (x := (⟨1, [10, 11]⟩ : Fa)) (a (sl tU _ _ [10, 11]) (by repeat constructor)), [_, _], _, rfl, tFa_mk (x := (⟨1, [11, 12]⟩ : Fa)) (a (sl tU _ _ [11, 12]) (by repeat constructor)), [_, _], [], rfl, tFa_mk (x := (⟨1, [12, 13]⟩ : Fa)) (a (sl tU _ _ [12, 13]) (by repeat constructor)), rfl⟩) (by decide) ?_
   refine go_bslice Tk rfl rfl rfl rfl rfl rfl rfl rfl (fun h => nomatch h) ?_
   intro bs
   refine go_lit tCl (b := bs) [wc14] (by repeat constructor) (fun hp a => ⟨[.int .u32 wc14.h.p, .slice (some ⟨u1, 0, none⟩) wc14.h.a.length 2, .slice (some ⟨u5, 0, none⟩) wc14.b.length 2], [], rfl, tCl_mk (a (sl tTm (some ⟨u1, 0, none⟩) 2 wc14.h.a) (by repeat constructor)) (a (sl tLi (some ⟨u5, 0, none⟩) 2 wc14.b) (by repeat constructor)), rfl⟩) (by simp) ?_
   iterate 2 refine go_pure1 Tk rfl rfl rfl ?_
   refine go_nil ?_
   refine go_env [(0, _), (1, _)] ⟨rfl, rfl, trivial⟩ ?_
   refine go_ret ⟨rfl, rfl⟩ _ _ (res2 (by rfl) (.tmp rfl) (.tmp rfl)) ⟨_, _, rfl, rfl, rfl⟩ (by repeat constructor) (by repeat constructor)
  refine go_bslice Tk rfl rfl rfl rfl rfl rfl rfl rfl (fun _ _ => satA) ?_
  intro b87
  refine go_lit_int (kk := .u32) [12, 13] (by repeat constructor) (by simp) ?_
  refine go_two ?_ ?_
  ·skip
   refine go_bslice Tk rfl rfl rfl rfl rfl rfl rfl rfl (fun h => nomatch h) ?_
   intro bs
   refine go_lit tCl (b := bs) [wc14] (by repeat constructor) (fun hp a => ⟨[.int .u32 wc14.h.p, .slice (some ⟨u1, 0, none⟩) wc14.h.a.length 2, .slice (some ⟨u5, 0, none⟩) wc14.b.length 2], [], rfl, tCl_mk (a (sl tTm (some ⟨u1, 0, none⟩) 2 wc14.h.a) (by repeat constructor)) (a (sl tLi (some ⟨u5, 0, none⟩) 2 wc14.b) (by repeat constructor)), rfl⟩) (by simp) ?_
   refine go_bslice Tk rfl rfl rfl rfl rfl rfl rfl rfl (fun _ _ => satA) ?_
   intro b88
   refine go_lit_int (kk := .u32) [10, 11] (by repeat constructor) (by simp) ?_
   refine go_call (law13F 1 _ 2 2) rfl rfl (by rfl) rfl (by repeat constructor) (by repeat constructor) (fun _ v Ps' Os' hq => by obtain ⟨rfl, rfl, rfl⟩ := hq; exact satS (by repeat constructor) (by repeat constructor)) ?_
   rintro _ _ _ ⟨rfl, rfl, rfl⟩
   refine go_call (law13F 1 _ 2 2) rfl rfl (by rfl) rfl (by repeat constructor) (by repeat constructor) (fun _ v Ps' Os' hq => by obtain ⟨rfl, rfl, rfl⟩ := hq; exact satS (by repeat constructor) (by repeat constructor)) ?_
   rintro _ _ _ ⟨rfl, rfl, rfl⟩
   refine go_call (law13F 1 _ 2 2) rfl rfl (by rfl) rfl (by repeat constructor) (by repeat constructor) (fun _ v Ps' Os' hq => by obtain ⟨rfl, rfl, rfl⟩ := hq; exact satS (by repeat constructor) (by repeat constructor)) ?_
   rintro _ _ _ ⟨rfl, rfl, rfl⟩
   refine go_pure1 Tk rfl rfl rfl ?_
   refine go_bslice Tk rfl rfl rfl rfl rfl rfl rfl rfl (fun _ _ => satA) ?_
   intro bf
   refine go_lit tFa (b := bf) wn14 (by repeat constructor) (fun hp a => ⟨[_, _], _, rfl, tFa_mk (x := (⟨1, [10, 11]⟩ : Fa)) (a (sl tU _ _ [10, 11]) (by repeat constructor)), [_, _], _, rfl, tFa_mk (x := (⟨1, [11, 12]⟩ : Fa)) (a (sl tU _ _ [11, 12]) (by repeat constructor)), [_, _], [], rfl, tFa_mk (x := (⟨1, [12, 13]⟩ : Fa)) (a (sl tU _ _ [12, 13]) (by repeat constructor)), rfl⟩) (by decide) ?_
   refine go_pure1 Tk rfl rfl rfl ?_
   refine go_nil ?_
   refine go_env [(0, _), (1, _)] ⟨rfl, rfl, trivial⟩ ?_
   refine go_ret ⟨rfl, rfl⟩ _ _ (res2 (by rfl) (.tmp rfl) (.tmp rfl)) ⟨_, _, rfl, rfl, rfl⟩ (by repeat constructor) (by repeat constructor)
  refine go_bslice Tk rfl rfl rfl rfl rfl rfl rfl rfl (fun _ _ => satA) ?_
  intro b89
  refine go_lit_int (kk := .u32) [10, 11] (by repeat constructor) (by simp) ?_
  refine go_two ?_ ?_
  ·skip
   refine go_bslice Tk rfl rfl rfl rfl rfl rfl rfl rfl (fun h => nomatch h) ?_
   intro bs
   refine go_lit tCl (b := bs) [wc14] (by repeat constructor) (fun hp a => ⟨[.int .u32 wc14.h.p, .slice (some ⟨u1, 0, none⟩) wc14.h.a.length 2, .slice (some ⟨u5, 0, none⟩) wc14.b.length 2], [], rfl, tCl_mk (a (sl tTm (some ⟨u1, 0, none⟩) 2 wc14.h.a) (by repeat constructor)) (a (sl tLi (some ⟨u5, 0, none⟩) 2 wc14.b) (by repeat constructor)), rfl⟩) (by simp) ?_
   refine go_call (law13F 1 _ 2 2) rfl rfl (by rfl) rfl (by repeat constructor) (by repeat constructor) (fun _ v Ps' Os' hq => by obtain ⟨rfl, rfl, rfl⟩ := hq; exact satS (by repeat constructor) (by repeat constructor)) ?_
   rintro _ _ _ ⟨rfl, rfl, rfl⟩
   refine go_call (law13F 1 _ 2 2) rfl rfl (by rfl) rfl (by repeat constructor) (by repeat constructor) (fun _ v Ps' Os' hq => by obtain ⟨rfl, rfl, rfl⟩ := hq; exact satS (by repeat constructor) (by repeat constructor)) ?_
   rintro _ _ _ ⟨rfl, rfl, rfl⟩
   refine go_call (law13F 1 _ 2 2) rfl rfl (by rfl) rfl (by repeat constructor) (by repeat constructor) (fun _ v Ps' Os' hq => by obtain ⟨rfl, rfl, rfl⟩ := hq; exact satS (by repeat constructor) (by repeat constructor)) ?_
   rintro _ _ _ ⟨rfl, rfl, rfl⟩
   refine go_pure1 Tk rfl rfl rfl ?_
   refine go_bslice Tk rfl rfl rfl rfl rfl rfl rfl rfl (fun _ _ => satA) ?_
   intro bf
   refine go_lit tFa (b := bf) wn14 (by repeat constructor) (fun hp a => ⟨[_, _], _, rfl, tFa_mk (x := (⟨1, [10, 11]⟩ : Fa)) (a (sl tU _ _ [10, 11]) (by repeat constructor)), [_, _], _, rfl, tFa_mk (x := (⟨1, [11, 12]⟩ : Fa)) (a (sl tU _ _ [11, 12]) (by repeat constructor)), [_, _], [], rfl, tFa_mk (x := (⟨1, [12, 13]⟩ : Fa)) (a (sl tU _ _ [12, 13]) (by repeat constructor)), rfl⟩) (by decide) ?_
   refine go_pure1 Tk rfl rfl rfl ?_
   refine go_nil ?_
   refine go_env [(0, _), (1, _)] ⟨rfl, rfl, trivial⟩ ?_
   refine go_ret ⟨rfl, rfl⟩ _ _ (res2 (by rfl) (.tmp rfl) (.tmp rfl)) ⟨_, _, rfl, rfl, rfl⟩ (by repeat constructor) (by repeat constructor)
  refine go_call (law13F 1 _ 2 2) rfl rfl (by rfl) rfl (by repeat constructor) (by repeat constructor) (fun _ v Ps' Os' hq => by obtain ⟨rfl, rfl, rfl⟩ := hq; exact satS (by repeat constructor) (by repeat constructor)) ?_
  rintro _ _ _ ⟨rfl, rfl, rfl⟩
  refine go_two ?_ ?_
  ·skip
   refine go_bslice Tk rfl rfl rfl rfl rfl rfl rfl rfl (fun h => nomatch h) ?_
   intro bs
   refine go_lit tCl (b := bs) [wc14] (by repeat constructor) (fun hp a => ⟨[.int .u32 wc14.h.p, .slice (some ⟨u1, 0, none⟩) wc14.h.a.length 2, .slice (some ⟨u5, 0, none⟩) wc14.b.length 2], [], rfl, tCl_mk (a (sl tTm (some ⟨u1, 0, none⟩) 2 wc14.h.a) (by repeat constructor)) (a (sl tLi (some ⟨u5, 0, none⟩) 2 wc14.b) (by repeat constructor)), rfl⟩) (by simp) ?_
   refine go_call (law13F 1 _ 2 2) rfl rfl (by rfl) rfl (by repeat constructor) (by repeat constructor) (fun _ v Ps' Os' hq => by obtain ⟨rfl, rfl, rfl⟩ := hq; exact satS (by repeat constructor) (by repeat constructor)) ?_
   rintro _ _ _ ⟨rfl, rfl, rfl⟩
   refine go_call (law13F 1 _ 2 2) rfl rfl (by rfl) rfl (by repeat constructor) (by repeat constructor) (fun _ v Ps' Os' hq => by obtain ⟨rfl, rfl, rfl⟩ := hq; exact satS (by repeat constructor) (by repeat constructor)) ?_
   rintro _ _ _ ⟨rfl, rfl, rfl⟩
   refine go_pure1 Tk rfl rfl rfl ?_
   refine go_bslice Tk rfl rfl rfl rfl rfl rfl rfl rfl (fun _ _ => satA) ?_
   intro bf
   refine go_lit tFa (b := bf) wn14 (by repeat constructor) (fun hp a => ⟨[_, _], _, rfl, tFa_mk (x := (⟨1, [10, 11]⟩ : Fa)) (a (sl tU _ _ [10, 11]) (by repeat constructor)), [_, _], _, rfl, tFa_mk (x := (⟨1, [11, 12]⟩ : Fa)) (a (sl tU _ _ [11, 12]) (by repeat constructor)), [_, _], [], rfl, tFa_mk (x := (⟨1, [12, 13]⟩ : Fa)) (a (sl tU _ _ [12, 13]) (by repeat constructor)), rfl⟩) (by decide) ?_
   refine go_pure1 Tk rfl rfl rfl ?_
   refine go_nil ?_
   refine go_env [(0, _), (1, _)] ⟨rfl, rfl, trivial⟩ ?_
   refine go_ret ⟨rfl, rfl⟩ _ _ (res2 (by rfl) (.tmp rfl) (.tmp rfl)) ⟨_, _, rfl, rfl, rfl⟩ (by repeat constructor) (by repeat constructor)
  refine go_call (law13F 1 _ 2 2) rfl rfl (by rfl) rfl (by repeat constructor) (by repeat constructor) (fun _ v Ps' Os' hq => by obtain ⟨rfl, rfl, rfl⟩ := hq; exact satS (by repeat constructor) (by repeat constructor)) ?_
  rintro _ _ _ ⟨rfl, rfl, rfl⟩
  refine go_two ?_ ?_
  ·skip
   refine go_bslice Tk rfl rfl rfl rfl rfl rfl rfl rfl (fun h => nomatch h) ?_
   intro bs
   refine go_lit tCl (b := bs) [wc14] (by repeat constructor) (fun hp a => ⟨[.int .u32 wc14.h.p, .slice (some ⟨u1, 0, none⟩) wc14.h.a.length 2, .slice (some ⟨u5, 0, none⟩) wc14.b.length 2], [], rfl, tCl_mk (a (sl tTm (some ⟨u1, 0, none⟩) 2 wc14.h.a) (by repeat constructor)) (a (sl tLi (some ⟨u5, 0, none⟩) 2 wc14.b) (by repeat constructor)), rfl⟩) (by simp) ?_
   refine go_call (law13F 1 _ 2 2) rfl rfl (by rfl) rfl (by repeat constructor) (by repeat constructor) (fun _ v Ps' Os' hq => by obtain ⟨rfl, rfl, rfl⟩ := hq; exact satS (by repeat constructor) (by repeat constructor)) ?_
   rintro _ _ _ ⟨rfl, rfl, rfl⟩
   refine go_pure1 Tk rfl rfl rfl ?_
   refine go_bslice Tk rfl rfl rfl rfl rfl rfl rfl rfl (fun _ _ => satA) ?_
   intro bf
   refine go_lit tFa (b := bf) wn14 (by repeat constructor) (fun hp a => ⟨[_, _], _, rfl, tFa_mk (x := (⟨1, [10, 11]⟩ : Fa)) (a (sl tU _ _ [10, 11]) (by repeat constructor)), [_, _], _, rfl, tFa_mk (x := (⟨1, [11, 12]⟩ : Fa)) (a (sl tU _ _ [11, 12]) (by repeat constructor)), [_, _], [], rfl, tFa_mk (x := (⟨1, [12, 13]⟩ : Fa)) (a (sl tU _ _ [12, 13]) (by repeat constructor)), rfl⟩) (by decide) ?_
   refine go_pure1 Tk rfl rfl rfl ?_
   refine go_nil ?_
   refine go_env [(0, _), (1, _)] ⟨rfl, rfl, trivial⟩ ?_
   refine go_ret ⟨rfl, rfl⟩ _ _ (res2 (by rfl) (.tmp rfl) (.tmp rfl)) ⟨_, _, rfl, rfl, rfl⟩ (by repeat constructor) (by repeat constructor)
  refine go_call (law13F 1 _ 2 2) rfl rfl (by rfl) rfl (by repeat constructor) (by repeat constructor) (fun _ v Ps' Os' hq => by obtain ⟨rfl, rfl, rfl⟩ := hq; exact satS (by repeat constructor) (by repeat constructor)) ?_
  rintro _ _ _ ⟨rfl, rfl, rfl⟩
  refine go_two ?_ ?_
  ·skip
   refine go_bslice Tk rfl rfl rfl rfl rfl rfl rfl rfl (fun h => nomatch h) ?_
   intro bs
   refine go_lit tCl (b := bs) [wc14] (by repeat constructor) (fun hp a => ⟨[.int .u32 wc14.h.p, .slice (some ⟨u1, 0, none⟩) wc14.h.a.length 2, .slice (some ⟨u5, 0, none⟩) wc14.b.length 2], [], rfl, tCl_mk (a (sl tTm (some ⟨u1, 0, none⟩) 2 wc14.h.a) (by repeat constructor)) (a (sl tLi (some ⟨u5, 0, none⟩) 2 wc14.b) (by repeat constructor)), rfl⟩) (by simp) ?_
   refine go_pure1 Tk rfl rfl rfl ?_
   refine go_bslice Tk rfl rfl rfl rfl rfl rfl rfl rfl (fun _ _ => satA) ?_
   intro bf
   refine go_lit tFa (b := bf) wn14 (by repeat constructor) (fun hp a => ⟨[_, _], _, rfl, tFa_mk (x := (⟨1, [10, 11]⟩ : Fa)) (a (sl tU _ _ [10, 11]) (by repeat constructor)), [_, _], _, rfl, tFa_mk (x := (⟨1, [11, 12]⟩ : Fa)) (a (sl tU _ _ [11, 12]) (by repeat constructor)), [_, _], [], rfl, tFa_mk (x := (⟨1, [12, 13]⟩ : Fa)) (a (sl tU _ _ [12, 13]) (by repeat constructor)), rfl⟩) (by decide) ?_
   refine go_pure1 Tk rfl rfl rfl ?_
   refine go_nil ?_
   refine go_env [(0, _), (1, _)] ⟨rfl, rfl, trivial⟩ ?_
   refine go_ret ⟨rfl, rfl⟩ _ _ (res2 (by rfl) (.tmp rfl) (.tmp rfl)) ⟨_, _, rfl, rfl, rfl⟩ (by repeat constructor) (by repeat constructor)
  refine go_bslice Tk rfl rfl rfl rfl rfl rfl rfl rfl (fun _ _ => satA) ?_
  intro bf
  refine go_lit tFa (b := bf) wn14 (by repeat constructor) (fun hp a => ⟨[_, _], _, rfl, tFa_mk (x := (⟨1, [10, 11]⟩ : Fa)) (a (sl tU _ _ [10, 11]) (by repeat constructor)), [_, _], _, rfl, tFa_mk (x := (⟨1, [11, 12]⟩ : Fa)) (a (sl tU _ _ [11, 12]) (by repeat constructor)), [_, _], [], rfl, tFa_mk (x := (⟨1, [12, 13]⟩ : Fa)) (a (sl tU _ _ [12, 13]) (by repeat constructor)), rfl⟩) (by decide) ?_
  refine go_bslice Tk rfl rfl rfl rfl rfl rfl rfl rfl (fun h => nomatch h) ?_
  intro bs
  refine go_lit tCl (b := bs) [wc14] (by repeat constructor) (fun hp a => ⟨[.int .u32 wc14.h.p, .slice (some ⟨u1, 0, none⟩) wc14.h.a.length 2, .slice (some ⟨u5, 0, none⟩) wc14.b.length 2], [], rfl, tCl_mk (a (sl tTm (some ⟨u1, 0, none⟩) 2 wc14.h.a) (by repeat constructor)) (a (sl tLi (some ⟨u5, 0, none⟩) 2 wc14.b) (by repeat constructor)), rfl⟩) (by simp) ?_
  iterate 2 refine go_pure1 Tk rfl rfl rfl ?_
  refine go_nil ?_
  refine go_env [(0, _), (1, _)] ⟨rfl, rfl, trivial⟩ ?_
  refine go_ret ⟨rfl, rfl⟩ _ _ (res2 (by rfl) (.tmp rfl) (.tmp rfl)) ⟨_, _, rfl, rfl, rfl⟩ (by repeat constructor) (by repeat constructor)
 refine go_bslice Tk rfl rfl rfl rfl rfl rfl rfl rfl (fun _ _ => satA) ?_
 intro b90
 refine go_lit_int (kk := .u32) [12, 13] (by repeat constructor) (by simp) ?_
 refine go_two ?_ ?_
 ·skip
  refine go_bslice Tk rfl rfl rfl rfl rfl rfl rfl rfl (fun h => nomatch h) ?_
  intro bs
  refine go_lit tCl (b := bs) [wc14] (by repeat constructor) (fun hp a => ⟨[.int .u32 wc14.h.p, .slice (some ⟨u1, 0, none⟩) wc14.h.a.length 2, .slice (some ⟨u5, 0, none⟩) wc14.b.length 2], [], rfl, tCl_mk (a (sl tTm (some ⟨u1, 0, none⟩) 2 wc14.h.a) (by repeat constructor)) (a (sl tLi (some ⟨u5, 0, none⟩) 2 wc14.b) (by repeat constructor)), rfl⟩) (by simp) ?_
  refine go_two ?_ ?_
  ·skip
   refine go_bslice Tk rfl rfl rfl rfl rfl rfl rfl rfl (fun _ _ => satA) ?_
   intro b91
   refine go_lit_int (kk := .u32) [10, 11] (by repeat constructor) (by simp) ?_
   refine go_two ?_ ?_
   ·skip
    refine go_call (law13F 1 _ 2 2) rfl rfl (by rfl) rfl (by repeat constructor) (by repeat constructor) (fun _ v Ps' Os' hq => by obtain ⟨rfl, rfl, rfl⟩ := hq; exact satS (by repeat constructor) (by repeat constructor)) ?_
    rintro _ _ _ ⟨rfl, rfl, rfl⟩
    refine go_bslice Tk rfl rfl rfl rfl rfl rfl rfl rfl (fun _ _ => satA) ?_
    intro b92
    refine go_lit_int (kk := .u32) [11, 12] (by repeat constructor) (by simp) ?_
    refine go_call (law13F 1 _ 2 2) rfl rfl (by rfl) rfl (by repeat constructor) (by repeat constructor) (fun _ v Ps' Os' hq => by obtain ⟨rfl, rfl, rfl⟩ := hq; exact satS (by repeat constructor) (by repeat constructor)) ?_
    rintro _ _ _ ⟨rfl, rfl, rfl⟩
    refine go_call (law13F 1 _ 2 2) rfl rfl (by rfl) rfl (by repeat constructor) (by repeat constructor) (fun _ v Ps' Os' hq => by obtain ⟨rfl, rfl, rfl⟩ := hq; exact satS (by repeat constructor) (by repeat constructor)) ?_
    rintro _ _ _ ⟨rfl, rfl, rfl⟩
    refine go_pure1 Tk rfl rfl rfl ?_
    refine go_bslice Tk rfl rfl rfl rfl rfl rfl rfl rfl (fun _ _ => satA) ?_
    intro bf
    refine go_lit tFa (b := bf) wn14 (by repeat constructor) (fun hp a => ⟨[_, _], _, rfl, tFa_mk (x := (⟨1, [10, 11]⟩ : Fa)) (a (sl tU _ _ [10, 11]) (by repeat constructor)), [_, _], _, rfl, tFa_mk (x := (⟨1, [11, 12]⟩ : Fa)) (a (sl tU _ _ [11, 12]) (by repeat constructor)), [_, _], [], rfl, tFa_mk (x := (⟨1, [12, 13]⟩ : Fa)) (a (sl tU _ _ [12, 13]) (by repeat constructor)), rfl⟩) (by decide) ?_
    refine go_pure1 Tk rfl rfl rfl ?_
    refine go_nil ?_
    refine go_env [(0, _), (1, _)] ⟨rfl, rfl, trivial⟩ ?_
    refine go_ret ⟨rfl, rfl⟩ _ _ (res2 (by rfl) (.tmp rfl) (.tmp rfl)) ⟨_, _, rfl, rfl, rfl⟩ (by repeat constructor) (by repeat constructor)
   refine go_bslice Tk rfl rfl rfl rfl rfl rfl rfl rfl (fun _ _ => satA) ?_
   intro b93
   refine go_lit_int (kk := .u32) [11, 12] (by repeat constructor) (by simp) ?_
   refine go_call (law13F 1 _ 2 2) rfl rfl (by rfl) rfl (by repeat constructor) (by repeat constructor) (fun _ v Ps' Os' hq => by obtain ⟨rfl, rfl, rfl⟩ := hq; exact satS (by repeat constructor) (by repeat constructor)) ?_
   rintro _ _ _ ⟨rfl, rfl, rfl⟩
   refine go_call (law13F 1 _ 2 2) rfl rfl (by rfl) rfl (by repeat constructor) (by repeat constructor) (fun _ v Ps' Os' hq => by obtain ⟨rfl, rfl, rfl⟩ := hq; exact satS (by repeat constructor) (by repeat constructor)) ?_
   rintro _ _ _ ⟨rfl, rfl, rfl⟩
   refine go_call (law13F 1 _ 2 2) rfl rfl (by rfl) rfl (by repeat constructor) (by repeat constructor) (fun _ v Ps' Os' hq => by obtain ⟨rfl, rfl, rfl⟩ := hq; exact satS (by repeat constructor) (by repeat constructor)) ?_
   rintro _ _ _ ⟨rfl, rfl, rfl⟩
   refine go_pure1 Tk rfl rfl rfl ?_
   refine go_bslice Tk rfl rfl rfl rfl rfl rfl rfl rfl (fun _ _ => satA) ?_
   intro bf
   refine go_lit tFa (b := bf) wn14 (by repeat constructor) (fun hp a => ⟨[_, _], _, rfl, tFa_mk (x := (⟨1, [10, 11]⟩ : Fa)) (a (sl tU _ _ [10, 11]) (by repeat constructor)), [_, _], _, rfl, tFa_mk (x := (⟨1, [11, 12]⟩ : Fa)) (a (sl tU _ _ [11, 12]) (by repeat constructor)), [_, _], [], rfl, tFa_mk (x := (⟨1, [12, 13]⟩ : Fa)) (a (sl tU _ _ [12, 13]) (by repeat constructor)), rfl⟩) (by decide) ?_
   refine go_pure1 Tk rfl rfl rfl ?_
   refine go_nil ?_
   refine go_env [(0, _), (1, _)] ⟨rfl, rfl, trivial⟩ ?_
   refine go_ret ⟨rfl, rfl⟩ _ _ (res2 (by rfl) (.tmp rfl) (.tmp rfl)) ⟨_, _, rfl, rfl, rfl⟩ (by repeat constructor) (by repeat constructor)
  refine go_bslice Tk rfl rfl rfl rfl rfl rfl rfl rfl (fun _ _ => satA) ?_
  intro b94
  refine go_lit_int (kk := .u32) [11, 12] (by repeat constructor) (by simp) ?_
  refine go_bslice Tk rfl rfl rfl rfl rfl rfl rfl rfl (fun _ _ => satA) ?_
  intro b95
  refine go_lit_int (kk := .u32) [10, 11] (by repeat constructor) (by simp) ?_
  refine go_call (law13F 1 _ 2 2) rfl rfl (by rfl) rfl (by repeat constructor) (by repeat constructor) (fun _ v Ps' Os' hq => by obtain ⟨rfl, rfl, rfl⟩ := hq; exact satS (by repeat constructor) (by repeat constructor)) ?_
  rintro _ _ _ ⟨rfl, rfl, rfl⟩
  refine go_call (law13F 1 _ 2 2) rfl rfl (by rfl) rfl (by repeat constructor) (by repeat constructor) (fun _ v Ps' Os' hq => by obtain ⟨rfl, rfl, rfl⟩ := hq; exact satS (by repeat constructor) (by repeat constructor)) ?_
  rintro _ _ _ ⟨rfl, rfl, rfl⟩
  refine go_call (law13F 1 _ 2 2) rfl rfl (by rfl) rfl (by repeat constructor) (by repeat constructor) (fun _ v Ps' Os' hq => by obtain ⟨rfl, rfl, rfl⟩ := hq; exact satS (by repeat constructor) (by repeat constructor)) ?_
  rintro _ _ _ ⟨rfl, rfl, rfl⟩
  refine go_pure1 Tk rfl rfl rfl ?_
  refine go_bslice Tk rfl rfl rfl rfl rfl rfl rfl rfl (fun _ _ => satA) ?_
  intro bf
  refine go_lit tFa (b := bf) wn14 (by repeat constructor) (fun hp a => ⟨[_, _], _, rfl, tFa_mk (x := (⟨1, [10, 11]⟩ : Fa)) (a (sl tU _ _ [10, 11]) (by repeat constructor)), [_, _], _, rfl, tFa_mk (x := (⟨1, [11, 12]⟩ : Fa)) (a (sl tU _ _ [11, 12]) (by repeat constructor)), [_, _], [], rfl, tFa_mk (x := (⟨1, [12, 13]⟩ : Fa)) (a (sl tU _ _ [12, 13]) (by repeat constructor)), rfl⟩) (by decide) ?_
  refine go_pure1 Tk rfl rfl rfl ?_
  refine go_nil ?_
  refine go_env [(0, _), (1, _)] ⟨rfl, rfl, trivial⟩ ?_
  refine go_ret ⟨rfl, rfl⟩ _ _ (res2 (by rfl) (.tmp rfl) (.tmp rfl)) ⟨_, _, rfl, rfl, rfl⟩ (by repeat constructor) (by repeat constructor)
 refine go_two ?_ ?_
 ·skip
  refine go_bslice Tk rfl rfl rfl rfl rfl rfl rfl rfl (fun _ _ => satA) ?_
  intro b96
  refine go_lit_int (kk := .u32) [10, 11] (by repeat constructor) (by simp) ?_
  refine go_two ?_ ?_
  ·skip
   refine go_bslice Tk rfl rfl rfl rfl rfl rfl rfl rfl (fun h => nomatch h) ?_
   intro bs
   refine go_lit tCl (b := bs) [wc14] (by repeat constructor) (fun hp a => ⟨[.int .u32 wc14.h.p, .slice (some ⟨u1, 0, none⟩) wc14.h.a.length 2, .slice (some ⟨u5, 0, none⟩) wc14.b.length 2], [], rfl, tCl_mk (a (sl tTm (some ⟨u1, 0, none⟩) 2 wc14.h.a) (by repeat constructor)) (a (sl tLi (some ⟨u5, 0, none⟩) 2 wc14.b) (by repeat constructor)), rfl⟩) (by simp) ?_
   refine go_two ?_ ?_
   ·skip
    refine go_call (law13F 1 _ 2 2) rfl rfl (by rfl) rfl (by repeat constructor) (by repeat constructor) (fun _ v Ps' Os' hq => by obtain ⟨rfl, rfl, rfl⟩ := hq; exact satS (by repeat constructor) (by repeat constructor)) ?_
    rintro _ _ _ ⟨rfl, rfl, rfl⟩
    refine go_bslice Tk rfl rfl rfl rfl rfl rfl rfl rfl (fun _ _ => satA) ?_
    intro b97
    refine go_lit_int (kk := .u32) [11, 12] (by repeat constructor) (by simp) ?_
    refine go_call (law13F 1 _ 2 2) rfl rfl (by rfl) rfl (by repeat constructor) (by repeat constructor) (fun _ v Ps' Os' hq => by obtain ⟨rfl, rfl, rfl⟩ := hq; exact satS (by repeat constructor) (by repeat constructor)) ?_
    rintro _ _ _ ⟨rfl, rfl, rfl⟩
    refine go_call (law13F 1 _ 2 2) rfl rfl (by rfl) rfl (by repeat constructor) (by repeat constructor) (fun _ v Ps' Os' hq => by obtain ⟨rfl, rfl, rfl⟩ := hq; exact satS (by repeat constructor) (by repeat constructor)) ?_
    rintro _ _ _ ⟨rfl, rfl, rfl⟩
    refine go_pure1 Tk rfl rfl rfl ?_
    refine go_bslice Tk rfl rfl rfl rfl rfl rfl rfl rfl (fun _ _ => satA) ?_
    intro bf
    refine go_lit tFa (b := bf) wn14 (by repeat constructor) (fun hp a => ⟨[_, _], _, rfl, tFa_mk (x := (⟨1, [10, 11]⟩ : Fa)) (a (sl tU _ _ [10, 11]) (by repeat constructor)), [_, _], _, rfl, tFa_mk (x := (⟨1, [11, 12]⟩ : Fa)) (a (sl tU _ _ [11, 12]) (by repeat constructor)), [_, _], [], rfl, tFa_mk (x := (⟨1, [12, 13]⟩ : Fa)) (a (sl tU _ _ [12, 13]) (by repeat constructor)), rfl⟩) (by decide) ?_
    refine go_pure1 Tk rfl rfl rfl ?_
    refine go_nil ?_
    refine go_env [(0, _), (1, _)] ⟨rfl, rfl, trivial⟩ ?_
    refine go_ret ⟨rfl, rfl⟩ _ _ (res2 (by rfl) (.tmp rfl) (.tmp rfl)) ⟨_, _, rfl, rfl, rfl⟩ (by repeat constructor) (by repeat constructor)
   refine go_bslice Tk rfl rfl rfl rfl rfl rfl rfl rfl (fun _ _ => satA) ?_
   intro b98
   refine go_lit_int (kk := .u32) [11, 12] (by repeat constructor) (by simp) ?_
   refine go_call (law13F 1 _ 2 2) rfl rfl (by rfl) rfl (by repeat constructor) (by repeat constructor) (fun _ v Ps' Os' hq => by obtain ⟨rfl, rfl, rfl⟩ := hq; exact satS (by repeat constructor) (by repeat constructor)) ?_
   rintro _ _ _ ⟨rfl, rfl, rfl⟩
   refine go_call (law13F 1 _ 2 2) rfl rfl (by rfl) rfl (by repeat constructor) (by repeat constructor) (fun _ v Ps' Os' hq => by obtain ⟨rfl, rfl, rfl⟩ := hq; exact satS (by repeat constructor) (by repeat constructor)) ?_
   rintro _ _ _ ⟨rfl, rfl, rfl⟩
   refine go_call (law13F 1 _ 2 2) rfl rfl (by rfl) rfl (by repeat constructor) (by repeat constructor) (fun _ v Ps' Os' hq => by obtain ⟨rfl, rfl, rfl⟩ := hq; exact satS (by repeat constructor) (by repeat constructor)) ?_
   rintro _ _ _ ⟨rfl, rfl, rfl⟩
   refine go_pure1 Tk rfl rfl rfl ?_
   refine go_bslice Tk rfl rfl rfl rfl rfl rfl rfl rfl (fun _ _ => satA) ?_
   intro bf
   refine go_lit tFa (b := bf) wn14 (by repeat constructor) (fun hp a => ⟨[_, _], _, rfl, tFa_mk (x := (⟨1, [10, 11]⟩ : Fa)) (a (sl tU _ _ [10, 11]) (by repeat constructor)), [_, _], _, rfl, tFa_mk (x := (⟨1, [11, 12]⟩ : Fa)) (a (sl tU _ _ [11, 12]) (by repeat constructor)), [_, _], [], rfl, tFa_mk (x := (⟨1, [12, 13]⟩ : Fa)) (a (sl tU _ _ [12, 13]) (by repeat constructor)), rfl⟩) (by decide) ?_
   refine go_pure1 Tk rfl rfl rfl ?_
   refine go_nil ?_
   refine go_env [(0, _), (1, _)] ⟨rfl, rfl, trivial⟩ ?_
   refine go_ret ⟨rfl, rfl⟩ _ _ (res2 (by rfl) (.tmp rfl) (.tmp rfl)) ⟨_, _, rfl, rfl, rfl⟩ (by repeat constructor) (by repeat constructor)
  refine go_two ?_ ?_
  ·skip
   refine go_call (law13F 1 _ 2 2) rfl rfl (by rfl) rfl (by repeat constructor) (by repeat constructor) (fun _ v Ps' Os' hq => by obtain ⟨rfl, rfl, rfl⟩ := hq; exact satS (by repeat constructor) (by repeat constructor)) ?_
   rintro _ _ _ ⟨rfl, rfl, rfl⟩
   refine go_two ?_ ?_
   ·skip
    refine go_bslice Tk rfl rfl rfl rfl rfl rfl rfl rfl (fun h => nomatch h) ?_
    intro bs
    refine go_lit tCl (b := bs) [wc14] (by repeat constructor) (fun hp a => ⟨[.int .u32 wc14.h.p, .slice (some ⟨u1, 0, none⟩) wc14.h.a.length 2, .slice (some ⟨u5, 0, none⟩) wc14.b.length 2], [], rfl, tCl_mk (a (sl tTm (some ⟨u1, 0, none⟩) 2 wc14.h.a) (by repeat constructor)) (a (sl tLi (some ⟨u5, 0, none⟩) 2 wc14.b) (by repeat constructor)), rfl⟩) (by simp) ?_
    refine go_bslice Tk rfl rfl rfl rfl rfl rfl rfl rfl (fun _ _ => satA) ?_
    intro b99
    refine go_lit_int (kk := .u32) [11, 12] (by repeat constructor) (by simp) ?_
    refine go_call (law13F 1 _ 2 2) rfl rfl (by rfl) rfl (by repeat constructor) (by repeat constructor) (fun _ v Ps' Os' hq => by obtain ⟨rfl, rfl, rfl⟩ := hq; exact satS (by repeat constructor) (by repeat constructor)) ?_
    rintro _ _ _ ⟨rfl, rfl, rfl⟩
    refine go_call (law13F 1 _ 2 2) rfl rfl (by rfl) rfl (by repeat constructor) (by repeat constructor) (fun _ v Ps' Os' hq => by obtain ⟨rfl, rfl, rfl⟩ := hq; exact satS (by repeat constructor) (by repeat constructor)) ?_
    rintro _ _ _ ⟨rfl, rfl, rfl⟩
    refine go_pure1 Tk rfl rfl rfl ?_
    refine go_bslice Tk rfl rfl rfl rfl rfl rfl rfl rfl (fun _ _ => satA) ?_
    intro bf
    refine go_lit tFa (b := bf) wn14 (by repeat constructor) (fun hp a => ⟨[_, _], _, rfl, tFa_mk (x := (⟨1, [10, 11]⟩ : Fa)) (a (sl tU _ _ [10, 11]) (by repeat constructor)), [_, _], _, rfl, tFa_mk (x := (⟨1, [11, 12]⟩ : Fa)) (a (sl tU _ _ [11, 12]) (by repeat constructor)), [_, _], [], rfl, tFa_mk (x := (⟨1, [12, 13]⟩ : Fa)) (a (sl tU _ _ [12, 13]) (by repeat constructor)), rfl⟩) (by decide) ?_
    refine go_pure1 Tk rfl rfl rfl ?_
    refine go_nil ?_
    refine go_env [(0, _), (1, _)] ⟨rfl, rfl, trivial⟩ ?_
    refine go_ret ⟨rfl, rfl⟩ _ _ (res2 (by rfl) (.tmp rfl) (.tmp rfl)) ⟨_, _, rfl, rfl, rfl⟩ (by repeat constructor) (by repeat constructor)
   refine go_bslice Tk rfl rfl rfl rfl rfl rfl rfl rfl (fun _ _ => satA) ?_
   intro b100
   refine go_lit_int (kk := .u32) [11, 12] (by repeat constructor) (by simp) ?_
   refine go_two ?_ ?_
   ·skip
    refine go_bslice Tk rfl rfl rfl rfl rfl rfl rfl rfl (fun h => nomatch h) ?_
    intro bs
    refine go_lit tCl (b := bs) [wc14] (by repeat constructor) (fun hp a => ⟨[.int .u32 wc14.h.p, .slice (some ⟨u1, 0, none⟩) wc14.h.a.length 2, .slice (some ⟨u5, 0, none⟩) wc14.b.length 2], [], rfl, tCl_mk (a (sl tTm (some ⟨u1, 0, none⟩) 2 wc14.h.a) (by repeat constructor)) (a (sl tLi (some ⟨u5, 0, none⟩) 2 wc14.b) (by repeat constructor)), rfl⟩) (by simp) ?_
    refine go_call (law13F 1 _ 2 2) rfl rfl (by rfl) rfl (by repeat constructor) (by repeat constructor) (fun _ v Ps' Os' hq => by obtain ⟨rfl, rfl, rfl⟩ := hq; exact satS (by repeat constructor) (by repeat constructor)) ?_
    rintro _ _ _ ⟨rfl, rfl, rfl⟩
    refine go_call (law13F 1 _ 2 2) rfl rfl (by rfl) rfl (by repeat constructor) (by repeat constructor) (fun _ v Ps' Os' hq => by obtain ⟨rfl, rfl, rfl⟩ := hq; exact satS (by repeat constructor) (by repeat constructor)) ?_
    rintro _ _ _ ⟨rfl, rfl, rfl⟩
    refine go_pure1 Tk rfl rfl rfl ?_
    refine go_bslice Tk rfl rfl rfl rfl rfl rfl rfl rfl (fun _ _ => satA) ?_
    intro bf
    refine go_lit tFa (b := bf) wn14 (by repeat constructor) (fun hp a => ⟨[_, _], _, rfl, tFa_mk (x := (⟨1, [10, 11]⟩ : Fa)) (a (sl tU _ _ [10, 11]) (by repeat constructor)), [_, _], _, rfl, tFa_mk (x := (⟨1, [11, 12]⟩ : Fa)) (a (sl tU _ _ [11, 12]) (by repeat constructor)), [_, _], [], rfl, tFa_mk (x := (⟨1, [12, 13]⟩ : Fa)) (a (sl tU _ _ [12, 13]) (by repeat constructor)), rfl⟩) (by decide) ?_
    refine go_pure1 Tk rfl rfl rfl ?_
    refine go_nil ?_
    refine go_env [(0, _), (1, _)] ⟨rfl, rfl, trivial⟩ ?_
    refine go_ret ⟨rfl, rfl⟩ _ _ (res2 (by rfl) (.tmp rfl) (.tmp rfl)) ⟨_, _, rfl, rfl, rfl⟩ (by repeat constructor) (by repeat constructor)
   refine go_call (law13F 1 _ 2 2) rfl rfl (by rfl) rfl (by repeat constructor) (by repeat constructor) (fun _ v Ps' Os' hq => by obtain ⟨rfl, rfl, rfl⟩ := hq; exact satS (by repeat constructor) (by repeat constructor)) ?_
   rintro _ _ _ ⟨rfl, rfl, rfl⟩
   refine go_two ?_ ?_
   ·skip
    refine go_bslice Tk rfl rfl rfl rfl rfl rfl rfl rfl (fun h => nomatch h) ?_
    intro bs
    refine go_lit tCl (b := bs) [wc14] (by repeat constructor) (fun hp a => ⟨[.int .u32 wc14.h.p, .slice (some ⟨u1, 0, none⟩) wc14.h.a.length 2, .slice (some ⟨u5, 0, none⟩) wc14.b.length 2], [], rfl, tCl_mk (a (sl tTm (some ⟨u1, 0, none⟩) 2 wc14.h.a) (by repeat constructor)) (a (sl tLi (some ⟨u5, 0, none⟩) 2 wc14.b) (by repeat constructor)), rfl⟩) (by simp) ?_
    refine go_call (law13F 1 _ 2 2) rfl rfl (by rfl) rfl (by repeat constructor) (by repeat constructor) (fun _ v Ps' Os' hq => by obtain ⟨rfl, rfl, rfl⟩ := hq; exact satS (by repeat constructor) (by repeat constructor)) ?_
    rintro _ _ _ ⟨rfl, rfl, rfl⟩
    refine go_pure1 Tk rfl rfl rfl ?_
    refine go_bslice Tk rfl rfl rfl rfl rfl rfl rfl rfl (fun _ _ => satA) ?_
    intro bf
    refine go_lit tFa (b := bf) wn14 (by repeat constructor) (fun hp a => ⟨[_, _], _, rfl, tFa_mk (x := (⟨1, [10, 11]⟩ : Fa)) (a (sl tU _ _ [10, 11]) (by repeat constructor)), [_, _], _, rfl, tFa_mk (x := (⟨1, [11, 12]⟩ : Fa)) (a (sl tU _ _ [11, 12]) (by repeat constructor)), [_, _], [], rfl, tFa_mk (x := (⟨1, [12, 13]⟩ : Fa)) (a (sl tU _ _ [12, 13]) (by repeat constructor)), rfl⟩) (by decide) ?_
    refine go_pure1 Tk rfl rfl rfl ?_
    refine go_nil ?_
    refine go_env [(0, _), (1, _)] ⟨rfl, rfl, trivial⟩ ?_
    refine go_ret ⟨rfl, rfl⟩ _ _ (res2 (by rfl) (.tmp rfl) (.tmp rfl)) ⟨_, _, rfl, rfl, rfl⟩ (by repeat constructor) (by repeat constructor)
   refine go_call (law13F 1 _ 2 2) rfl rfl (by rfl) rfl (by repeat constructor) (by repeat constructor) (fun _ v Ps' Os' hq => by obtain ⟨rfl, rfl, rfl⟩ := hq; exact satS (by repeat constructor) (by repeat constructor)) ?_
   rintro _ _ _ ⟨rfl, rfl, rfl⟩
   refine go_two ?_ ?_
   ·skip
    refine go_bslice Tk rfl rfl rfl rfl rfl rfl rfl rfl (fun h => nomatch h) ?_
    intro bs
    refine go_lit tCl (b := bs) [wc14] (by repeat constructor) (fun hp a => ⟨[.int .u32 wc14.h.p, .slice (some ⟨u1, 0, none⟩) wc14.h.a.length 2, .slice (some ⟨u5, 0, none⟩) wc14.b.length 2], [], rfl, tCl_mk (a (sl tTm (some ⟨u1, 0, none⟩) 2 wc14.h.a) (by repeat constructor)) (a (sl tLi (some ⟨u5, 0, none⟩) 2 wc14.b) (by repeat constructor)), rfl⟩) (by simp) ?_
    refine go_pure1 Tk rfl rfl rfl ?_
    refine go_bslice Tk rfl rfl rfl rfl rfl rfl rfl rfl (fun _ _ => satA) ?_
    intro bf
    refine go_lit tFa (b := bf) wn14 (by repeat constructor) (fun hp a => ⟨[_, _], _, rfl, tFa_mk (x := (⟨1, [10, 11]⟩ : Fa)) (a (sl tU _ _ [10, 11]) (by repeat constructor)), [_, _], _, rfl, tFa_mk (x := (⟨1, [11, 12]⟩ : Fa)) (a (sl tU _ _ [11, 12]) (by repeat constructor)), [_, _], [], rfl, tFa_mk (x := (⟨1, [12, 13]⟩ : Fa)) (a (sl tU _ _ [12, 13]) (by repeat constructor)), rfl⟩) (by decide) ?_
    refine go_pure1 Tk rfl rfl rfl ?_
    refine go_nil ?_
    refine go_env [(0, _), (1, _)] ⟨rfl, rfl, trivial⟩ ?_
    refine go_ret ⟨rfl, rfl⟩ _ _ (res2 (by rfl) (.tmp rfl) (.tmp rfl)) ⟨_, _, rfl, rfl, rfl⟩ (by repeat constructor) (by repeat constructor)
   refine go_bslice Tk rfl rfl rfl rfl rfl rfl rfl rfl (fun _ _ => satA) ?_
   intro bf
   refine go_lit tFa (b := bf) wn14 (by repeat constructor) (fun hp a => ⟨[_, _], _, rfl, tFa_mk (x := (⟨1, [10, 11]⟩ : Fa)) (a (sl tU _ _ [10, 11]) (by repeat constructor)), [_, _], _, rfl, tFa_mk (x := (⟨1, [11, 12]⟩ : Fa)) (a (sl tU _ _ [11, 12]) (by repeat constructor)), [_, _], [], rfl, tFa_mk (x := (⟨1, [12, 13]⟩ : Fa)) (a (sl tU _ _ [12, 13]) (by repeat constructor)), rfl⟩) (by decide) ?_
   refine go_bslice Tk rfl rfl rfl rfl rfl rfl rfl rfl (fun h => nomatch h) ?_
   intro bs
   refine go_lit tCl (b := bs) [wc14] (by repeat constructor) (fun hp a => ⟨[.int .u32 wc14.h.p, .slice (some ⟨u1, 0, none⟩) wc14.h.a.length 2, .slice (some ⟨u5, 0, none⟩) wc14.b.length 2], [], rfl, tCl_mk (a (sl tTm (some ⟨u1, 0, none⟩) 2 wc14.h.a) (by repeat constructor)) (a (sl tLi (some ⟨u5, 0, none⟩) 2 wc14.b) (by repeat constructor)), rfl⟩) (by simp) ?_
   iterate 2 refine go_pure1 Tk rfl rfl rfl ?_
   refine go_nil ?_
   refine go_env [(0, _), (1, _)] ⟨rfl, rfl, trivial⟩ ?_
   refine go_ret ⟨rfl, rfl⟩ _ _ (res2 (by rfl) (.tmp rfl) (.tmp rfl)) ⟨_, _, rfl, rfl, rfl⟩ (by repeat constructor) (by repeat constructor)
  refine go_bslice Tk rfl rfl rfl rfl rfl rfl rfl rfl (fun _ _ => satA) ?_
  intro b101
  refine go_lit_int (kk := .u32) [11, 12] (by repeat constructor) (by simp) ?_
  refine go_two ?_ ?_
  ·skip
   refine go_bslice Tk rfl rfl rfl rfl rfl rfl rfl rfl (fun h => nomatch h) ?_
   intro bs
   refine go_lit tCl (b := bs) [wc14] (by repeat constructor) (fun hp a => ⟨[.int .u32 wc14.h.p, .slice (some ⟨u1, 0, none⟩) wc14.h.a.length 2, .slice (some ⟨u5, 0, none⟩) wc14.b.length 2], [], rfl, tCl_mk (a (sl tTm (some ⟨u1, 0, none⟩) 2 wc14.h.a) (by repeat constructor)) (a (sl tLi (some ⟨u5, 0, none⟩) 2 wc14.b) (by repeat constructor)), rfl⟩) (by simp) ?_
   refine go_call (law13F 1 _ 2 2) rfl rfl (by rfl) rfl (by repeat constructor) (by repeat constructor) (fun _ v Ps' Os' hq => by obtain ⟨rfl, rfl, rfl⟩ := hq; exact satS (by repeat constructor) (by repeat constructor)) ?_
   rintro _ _ _ ⟨rfl, rfl, rfl⟩
   refine go_call (law13F 1 _ 2 2) rfl rfl (by rfl) rfl (by repeat constructor) (by repeat constructor) (fun _ v Ps' Os' hq => by obtain ⟨rfl, rfl, rfl⟩ := hq; exact satS (by repeat constructor) (by repeat constructor)) ?_
   rintro _ _ _ ⟨rfl, rfl, rfl⟩
   refine go_call (law13F 1 _ 2 2) rfl rfl (by rfl) rfl (by repeat constructor) (by repeat constructor) (fun _ v Ps' Os' hq => by obtain ⟨rfl, rfl, rfl⟩ := hq; exact satS (by repeat constructor) (by repeat constructor)) ?_
   rintro _ _ _ ⟨rfl, rfl, rfl⟩
   refine go_pure1 Tk rfl rfl rfl ?_
   refine go_bslice Tk rfl rfl rfl rfl rfl rfl rfl rfl (fun _ _ => satA) ?_
   intro bf
   refine go_lit tFa (b := bf) wn14 (by repeat constructor) (fun hp a => ⟨[_, _], _, rfl, tFa_mk (x := (⟨1, [10, 11]⟩ : Fa)) (a (sl tU _ _ [10, 11]) (by repeat constructor)), [_, _], _, rfl, tFa_mk (x := (⟨1, [11, 12]⟩ : Fa)) (a (sl tU _ _ [11, 12]) (by repeat constructor)), [_, _], [], rfl, tFa_mk (x := (⟨1, [12, 13]⟩ : Fa)) (a (sl tU _ _ [12, 13]) (by repeat constructor)), rfl⟩) (by decide) ?_
   refine go_pure1 Tk rfl rfl rfl ?_
   refine go_nil ?_
   refine go_env [(0, _), (1, _)] ⟨rfl, rfl, trivial⟩ ?_
   refine go_ret ⟨rfl, rfl⟩ _ _ (res2 (by rfl) (.tmp rfl) (.tmp rfl)) ⟨_, _, rfl, rfl, rfl⟩ (by repeat constructor) (by repeat constructor)
  refine go_call (law13F 1 _ 2 2) rfl rfl (by rfl) rfl (by repeat constructor) (by repeat constructor) (fun _ v Ps' Os' hq => by obtain ⟨rfl, rfl, rfl⟩ := hq; exact satS (by repeat constructor) (by repeat constructor)) ?_
  rintro _ _ _ ⟨rfl, rfl, rfl⟩
  refine go_two ?_ ?_
  ·skip
   refine go_bslice Tk rfl rfl rfl rfl rfl rfl rfl rfl (fun h => nomatch h) ?_
   intro bs
   refine go_lit tCl (b := bs) [wc14] (by repeat constructor) (fun hp a => ⟨[.int .u32 wc14.h.p, .slice (some ⟨u1, 0, none⟩) wc14.h.a.length 2, .slice (some ⟨u5, 0, none⟩) wc14.b.length 2], [], rfl, tCl_mk (a (sl tTm (some ⟨u1, 0, none⟩) 2 wc14.h.a) (by repeat constructor)) (a (sl tLi (some ⟨u5, 0, none⟩) 2 wc14.b) (by repeat constructor)), rfl⟩) (by simp) ?_
   refine go_call (law13F 1 _ 2 2) rfl rfl (by rfl) rfl (by repeat constructor) (by repeat constructor) (fun _ v Ps' Os' hq => by obtain ⟨rfl, rfl, rfl⟩ := hq; exact satS (by repeat constructor) (by repeat constructor)) ?_
   rintro _ _ _ ⟨rfl, rfl, rfl⟩
   refine go_call (law13F 1 _ 2 2) rfl rfl (by rfl) rfl (by repeat constructor) (by repeat constructor) (fun _ v Ps' Os' hq => by obtain ⟨rfl, rfl, rfl⟩ := hq; exact satS (by repeat constructor) (by repeat constructor)) ?_
   rintro _ _ _ ⟨rfl, rfl, rfl⟩
   refine go_pure1 Tk rfl rfl rfl ?_
   refine go_bslice Tk rfl rfl rfl rfl rfl rfl rfl rfl (fun _ _ => satA) ?_
   intro bf
   refine go_lit tFa (b := bf) wn14 (by repeat constructor) (fun hp a => ⟨[_, _], _, rfl, tFa_mk (x := (⟨1, [10, 11]⟩ : Fa)) (a (sl tU _ _ [10, 11]) (by repeat constructor)), [_, _], _, rfl, tFa_mk (x := (⟨1, [11, 12]⟩ : Fa)) (a (sl tU _ _ [11, 12]) (by repeat constructor)), [_, _], [], rfl, tFa_mk (x := (⟨1, [12, 13]⟩ : Fa)) (a (sl tU _ _ [12, 13]) (by repeat constructor)), rfl⟩) (by decide) ?_
   refine go_pure1 Tk rfl rfl rfl ?_
   refine go_nil ?_
   refine go_env [(0, _), (1, _)] ⟨rfl, rfl, trivial⟩ ?_
   refine go_ret ⟨rfl, rfl⟩ _ _ (res2 (by rfl) (.tmp rfl) (.tmp rfl)) ⟨_, _, rfl, rfl, rfl⟩ (by repeat constructor) (by repeat constructor)
  refine go_call (law13F 1 _ 2 2) rfl rfl (by rfl) rfl (by repeat constructor) (by repeat constructor) (fun _ v Ps' Os' hq => by obtain ⟨rfl, rfl, rfl⟩ := hq; exact satS (by repeat constructor) (by repeat constructor)) ?_
  rintro _ _ _ ⟨rfl, rfl, rfl⟩
  refine go_two ?_ ?_
  ·skip
   refine go_bslice Tk rfl rfl rfl rfl rfl rfl rfl rfl (fun h => nomatch h) ?_
   intro bs
   refine go_lit tCl (b := bs) [wc14] (by repeat constructor) (fun hp a => ⟨[.int .u32 wc14.h.p, .slice (some ⟨u1, 0, none⟩) wc14.h.a.length 2, .slice (some ⟨u5, 0, none⟩) wc14.b.length 2], [], rfl, tCl_mk (a (sl tTm (some ⟨u1, 0, none⟩) 2 wc14.h.a) (by repeat constructor)) (a (sl tLi (some ⟨u5, 0, none⟩) 2 wc14.b) (by repeat constructor)), rfl⟩) (by simp) ?_
   refine go_call (law13F 1 _ 2 2) rfl rfl (by rfl) rfl (by repeat constructor) (by repeat constructor) (fun _ v Ps' Os' hq => by obtain ⟨rfl, rfl, rfl⟩ := hq; exact satS (by repeat constructor) (by repeat constructor)) ?_
   rintro _ _ _ ⟨rfl, rfl, rfl⟩
   refine go_pure1 Tk rfl rfl rfl ?_
   refine go_bslice Tk rfl rfl rfl rfl rfl rfl rfl rfl (fun _ _ => satA) ?_
   intro bf
   refine go_lit tFa (b := bf) wn14 (by repeat constructor) (fun hp a => ⟨[_, _], _, rfl, tFa_mk (x := (⟨1, [10, 11]⟩ : Fa)) (a (sl tU _ _ [10, 11]) (by repeat constructor)), [_, _], _, rfl, tFa_mk (x := (⟨1, [11, 12]⟩ : Fa)) (a (sl tU _ _ [11, 12]) (by repeat constructor)), [_, _], [], rfl, tFa_mk (x := (⟨1, [12, 13]⟩ : Fa)) (a (sl tU _ _ [12, 13]) (by repeat constructor)), rfl⟩) (by decide) ?_
   refine go_pure1 Tk rfl rfl rfl ?_
   refine go_nil ?_
   refine go_env [(0, _), (1, _)] ⟨rfl, rfl, trivial⟩ ?_
   refine go_ret ⟨rfl, rfl⟩ _ _ (res2 (by rfl) (.tmp rfl) (.tmp rfl)) ⟨_, _, rfl, rfl, rfl⟩ (by repeat constructor) (by repeat constructor)
  refine go_call (law13F 1 _ 2 2) rfl rfl (by rfl) rfl (by repeat constructor) (by repeat constructor) (fun _ v Ps' Os' hq => by obtain ⟨rfl, rfl, rfl⟩ := hq; exact satS (by repeat constructor) (by repeat constructor)) ?_
  rintro _ _ _ ⟨rfl, rfl, rfl⟩
  refine go_two ?_ ?_
  ·skip
   refine go_bslice Tk rfl rfl rfl rfl rfl rfl rfl rfl (fun h => nomatch h) ?_
   intro bs
   refine go_lit tCl (b := bs) [wc14] (by repeat constructor) (fun hp a => ⟨[.int .u32 wc14.h.p, .slice (some ⟨u1, 0, none⟩) wc14.h.a.length 2, .slice (some ⟨u5, 0, none⟩) wc14.b.length 2], [], rfl, tCl_mk (a (sl tTm (some ⟨u1, 0, none⟩) 2 wc14.h.a) (by repeat constructor)) (a (sl tLi (some ⟨u5, 0, none⟩) 2 wc14.b) (by repeat constructor)), rfl⟩) (by simp) ?_
   refine go_pure1 Tk rfl rfl rfl ?_
   refine go_bslice Tk rfl rfl rfl rfl rfl rfl rfl rfl (fun _ _ => satA) ?_
   intro bf
   refine go_lit tFa (b := bf) wn14 (by repeat constructor) (fun hp a => ⟨[_, _], _, rfl, tFa_mk (x := (⟨1, [10, 11]⟩ : Fa)) (a (sl tU _ _ [10, 11]) (by repeat constructor)), [_, _], _, rfl, tFa_mk (x := (⟨1, [11, 12]⟩ : Fa)) (a (sl tU _ _ [11, 12]) (by repeat constructor)), [_, _], [], rfl, tFa_mk (x := (⟨1, [12, 13]⟩ : Fa)) (a (sl tU _ _ [12, 13]) (by repeat constructor)), rfl⟩) (by decide) ?_
   refine go_pure1 Tk rfl rfl rfl ?_
   refine go_nil ?_
   refine go_env [(0, _), (1, _)] ⟨rfl, rfl, trivial⟩ ?_
   refine go_ret ⟨rfl, rfl⟩ _ _ (res2 (by rfl) (.tmp rfl) (.tmp rfl)) ⟨_, _, rfl, rfl, rfl⟩ (by repeat constructor) (by repeat constructor)
  refine go_bslice Tk rfl rfl rfl rfl rfl rfl rfl rfl (fun _ _ => satA) ?_
  intro bf
  refine go_lit tFa (b := bf) wn14 (by repeat constructor) (fun hp a => ⟨[_, _], _, rfl, tFa_mk (x := (⟨1, [10, 11]⟩ : Fa)) (a (sl tU _ _ [10, 11]) (by repeat constructor)), [_, _], _, rfl, tFa_mk (x := (⟨1, [11, 12]⟩ : Fa)) (a (sl tU _ _ [11, 12]) (by repeat constructor)), [_, _], [], rfl, tFa_mk (x := (⟨1, [12, 13]⟩ : Fa)) (a (sl tU _ _ [12, 13]) (by repeat constructor)), rfl⟩) (by decide) ?_
  refine go_bslice Tk rfl rfl rfl rfl rfl rfl rfl rfl (fun h => nomatch h) ?_
  intro bs
  refine go_lit tCl (b := bs) [wc14] (by repeat constructor) (fun hp a => ⟨[.int .u32 wc14.h.p, .slice (some ⟨u1, 0, none⟩) wc14.h.a.length 2, .slice (some ⟨u5, 0, none⟩) wc14.b.length 2], [], rfl, tCl_mk (a (sl tTm (some ⟨u1, 0, none⟩) 2 wc14.h.a) (by repeat constructor)) (a (sl tLi (some ⟨u5, 0, none⟩) 2 wc14.b) (by repeat constructor)), rfl⟩) (by simp) ?_
  iterate 2 refine go_pure1 Tk rfl rfl rfl ?_
  refine go_nil ?_
  refine go_env [(0, _), (1, _)] ⟨rfl, rfl, trivial⟩ ?_
  refine go_ret ⟨rfl, rfl⟩ _ _ (res2 (by rfl) (.tmp rfl) (.tmp rfl)) ⟨_, _, rfl, rfl, rfl⟩ (by repeat constructor) (by repeat constructor)
 refine go_bslice Tk rfl rfl rfl rfl rfl rfl rfl rfl (fun _ _ => satA) ?_
 intro b102
 refine go_lit_int (kk := .u32) [11, 12] (by repeat constructor) (by simp) ?_
 refine go_two ?_ ?_
 ·skip
  refine go_bslice Tk rfl rfl rfl rfl rfl rfl rfl rfl (fun h => nomatch h) ?_
  intro bs
  refine go_lit tCl (b := bs) [wc14] (by repeat constructor) (fun hp a => ⟨[.int .u32 wc14.h.p, .slice (some ⟨u1, 0, none⟩) wc14.h.a.length 2, .slice (some ⟨u5, 0, none⟩) wc14.b.length 2], [], rfl, tCl_mk (a (sl tTm (some ⟨u1, 0, none⟩) 2 wc14.h.a) (by repeat constructor)) (a (sl tLi (some ⟨u5, 0, none⟩) 2 wc14.b) (by repeat constructor)), rfl⟩) (by simp) ?_
  refine go_bslice Tk rfl rfl rfl rfl rfl rfl rfl rfl (fun _ _ => satA) ?_
  intro b103
  refine go_lit_int (kk := .u32) [10, 11] (by repeat constructor) (by simp) ?_
  refine go_call (law13F 1 _ 2 2) rfl rfl (by rfl) rfl (by repeat constructor) (by repeat constructor) (fun _ v Ps' Os' hq => by obtain ⟨rfl, rfl, rfl⟩ := hq; exact satS (by repeat constructor) (by repeat constructor)) ?_
  rintro _ _ _ ⟨rfl, rfl, rfl⟩
  refine go_call (law13F 1 _ 2 2) rfl rfl (by rfl) rfl (by repeat constructor) (by repeat constructor) (fun _ v Ps' Os' hq => by obtain ⟨rfl, rfl, rfl⟩ := hq; exact satS (by repeat constructor) (by repeat constructor)) ?_
  rintro _ _ _ ⟨rfl, rfl, rfl⟩
  refine go_call (law13F 1 _ 2 2) rfl rfl (by rfl) rfl (by repeat constructor) (by repeat constructor) (fun _ v Ps' Os' hq => by obtain ⟨rfl, rfl, rfl⟩ := hq; exact satS (by repeat constructor) (by repeat constructor)) ?_
  rintro _ _ _ ⟨rfl, rfl, rfl⟩
  refine go_pure1 Tk rfl rfl rfl ?_
  refine go_bslice Tk rfl rfl rfl rfl rfl rfl rfl rfl (fun _ _ => satA) ?_
  intro bf
  refine go_lit tFa (b := bf) wn14 (by repeat constructor) (fun hp a => ⟨[_, _], _, rfl, tFa_mk (x := (⟨1, [10, 11]⟩ : Fa)) (a (sl tU _ _ [10, 11]) (by repeat constructor)), [_, _], _, rfl, tFa_mk (x := (⟨1, [11, 12]⟩ : Fa)) (a (sl tU _ _ [11, 12]) (by repeat constructor)), [_, _], [], rfl, tFa_mk (x := (⟨1, [12, 13]⟩ : Fa)) (a (sl tU _ _ [12, 13]) (by repeat constructor)), rfl⟩) (by decide) ?_
  refine go_pure1 Tk rfl rfl rfl ?_
  refine go_nil ?_
  refine go_env [(0, _), (1, _)] ⟨rfl, rfl, trivial⟩ ?_
  refine go_ret ⟨rfl, rfl⟩ _ _ (res2 (by rfl) (.tmp rfl) (.tmp rfl)) ⟨_, _, rfl, rfl, rfl⟩ (by repeat constructor) (by repeat constructor)
 refine go_bslice Tk rfl rfl rfl rfl rfl rfl rfl rfl (fun _ _ => satA) ?_
 intro b104
 refine go_lit_int (kk := .u32) [10, 11] (by repeat constructor) (by simp) ?_
 refine go_two ?_ ?_
 ·skip
  refine go_bslice Tk rfl rfl rfl rfl rfl rfl rfl rfl (fun h => nomatch h) ?_
  intro bs
  refine go_lit tCl (b := bs) [wc14] (by repeat constructor) (fun hp a => ⟨[.int .u32 wc14.h.p, .slice (some ⟨u1, 0, none⟩) wc14.h.a.length 2, .slice (some ⟨u5, 0, none⟩) wc14.b.length 2], [], rfl, tCl_mk (a (sl tTm (some ⟨u1, 0, none⟩) 2 wc14.h.a) (by repeat constructor)) (a (sl tLi (some ⟨u5, 0, none⟩) 2 wc14.b) (by repeat constructor)), rfl⟩) (by simp) ?_
  refine go_call (law13F 1 _ 2 2) rfl rfl (by rfl) rfl (by repeat constructor) (by repeat constructor) (fun _ v Ps' Os' hq => by obtain ⟨rfl, rfl, rfl⟩ := hq; exact satS (by repeat constructor) (by repeat constructor)) ?_
  rintro _ _ _ ⟨rfl, rfl, rfl⟩
  refine go_call (law13F 1 _ 2 2) rfl rfl (by rfl) rfl (by repeat constructor) (by repeat constructor) (fun _ v Ps' Os' hq => by obtain ⟨rfl, rfl, rfl⟩ := hq; exact satS (by repeat constructor) (by repeat constructor)) ?_
  rintro _ _ _ ⟨rfl, rfl, rfl⟩
  refine go_call (law13F 1 _ 2 2) rfl rfl (by rfl) rfl (by repeat constructor) (by repeat constructor) (fun _ v Ps' Os' hq => by obtain ⟨rfl, rfl, rfl⟩ := hq; exact satS (by repeat constructor) (by repeat constructor)) ?_
  rintro _ _ _ ⟨rfl, rfl, rfl⟩
  refine go_pure1 Tk rfl rfl rfl ?_
  refine go_bslice Tk rfl rfl rfl rfl rfl rfl rfl rfl (fun _ _ => satA) ?_
  intro bf
  refine go_lit tFa (b := bf) wn14 (by repeat constructor) (fun hp a => ⟨[_, _], _, rfl, tFa_mk (x := (⟨1, [10, 11]⟩ : Fa)) (a (sl tU _ _ [10, 11]) (by repeat constructor)), [_, _], _, rfl, tFa_mk (x := (⟨1, [11, 12]⟩ : Fa)) (a (sl tU _ _ [11, 12]) (by repeat constructor)), [_, _], [], rfl, tFa_mk (x := (⟨1, [12, 13]⟩ : Fa)) (a (sl tU _ _ [12, 13]) (by repeat constructor)), rfl⟩) (by decide) ?_
  refine go_pure1 Tk rfl rfl rfl ?_
  refine go_nil ?_
  refine go_env [(0, _), (1, _)] ⟨rfl, rfl, trivial⟩ ?_
  refine go_ret ⟨rfl, rfl⟩ _ _ (res2 (by rfl) (.tmp rfl) (.tmp rfl)) ⟨_, _, rfl, rfl, rfl⟩ (by repeat constructor) (by repeat constructor)
 refine go_call (law13F 1 _ 2 2) rfl rfl (by rfl) rfl (by repeat constructor) (by repeat constructor) (fun _ v Ps' Os' hq => by obtain ⟨rfl, rfl, rfl⟩ := hq; exact satS (by repeat constructor) (by repeat constructor)) ?_
 rintro _ _ _ ⟨rfl, rfl, rfl⟩
 refine go_two ?_ ?_
 ·skip
  refine go_bslice Tk rfl rfl rfl rfl rfl rfl rfl rfl (fun h => nomatch h) ?_
  intro bs
  refine go_lit tCl (b := bs) [wc14] (by repeat constructor) (fun hp a => ⟨[.int .u32 wc14.h.p, .slice (some ⟨u1, 0, none⟩) wc14.h.a.length 2, .slice (some ⟨u5, 0, none⟩) wc14.b.length 2], [], rfl, tCl_mk (a (sl tTm (some ⟨u1, 0, none⟩) 2 wc14.h.a) (by repeat constructor)) (a (sl tLi (some ⟨u5, 0, none⟩) 2 wc14.b) (by repeat constructor)), rfl⟩) (by simp) ?_
  refine go_call (law13F 1 _ 2 2) rfl rfl (by rfl) rfl (by repeat constructor) (by repeat constructor) (fun _ v Ps' Os' hq => by obtain ⟨rfl, rfl, rfl⟩ := hq; exact satS (by repeat constructor) (by repeat constructor)) ?_
  rintro _ _ _ ⟨rfl, rfl, rfl⟩
  refine go_call (law13F 1 _ 2 2) rfl rfl (by rfl) rfl (by repeat constructor) (by repeat constructor) (fun _ v Ps' Os' hq => by obtain ⟨rfl, rfl, rfl⟩ := hq; exact satS (by repeat constructor) (by repeat constructor)) ?_
  rintro _ _ _ ⟨rfl, rfl, rfl⟩
  refine go_pure1 Tk rfl rfl rfl ?_
  refine go_bslice Tk rfl rfl rfl rfl rfl rfl rfl rfl (fun _ _ => satA) ?_
  intro bf
  refine go_lit tFa (b := bf) wn14 (by repeat constructor) (fun hp a => ⟨[_, _], _, rfl, tFa_mk (x := (⟨1, [10, 11]⟩ : Fa)) (a (sl tU _ _ [10, 11]) (by repeat constructor)), [_, _], _, rfl, tFa_mk (x := (⟨1, [11, 12]⟩ : Fa)) (a (sl tU _ _ [11, 12]) (by repeat constructor)), [_, _], [], rfl, tFa_mk (x := (⟨1, [12, 13]⟩ : Fa)) (a (sl tU _ _ [12, 13]) (by repeat constructor)), rfl⟩) (by decide) ?_
  refine go_pure1 Tk rfl rfl rfl ?_
  refine go_nil ?_
  refine go_env [(0, _), (1, _)] ⟨rfl, rfl, trivial⟩ ?_
  refine go_ret ⟨rfl, rfl⟩ _ _ (res2 (by rfl) (.tmp rfl) (.tmp rfl)) ⟨_, _, rfl, rfl, rfl⟩ (by repeat constructor) (by repeat constructor)
 refine go_call (law13F 1 _ 2 2) rfl rfl (by rfl) rfl (by repeat constructor) (by repeat constructor) (fun _ v Ps' Os' hq => by obtain ⟨rfl, rfl, rfl⟩ := hq; exact satS (by repeat constructor) (by repeat constructor)) ?_
 rintro _ _ _ ⟨rfl, rfl, rfl⟩
 refine go_two ?_ ?_
 ·skip
  refine go_bslice Tk rfl rfl rfl rfl rfl rfl rfl rfl (fun h => nomatch h) ?_
  intro bs
  refine go_lit tCl (b := bs) [wc14] (by repeat constructor) (fun hp a => ⟨[.int .u32 wc14.h.p, .slice (some ⟨u1, 0, none⟩) wc14.h.a.length 2, .slice (some ⟨u5, 0, none⟩) wc14.b.length 2], [], rfl, tCl_mk (a (sl tTm (some ⟨u1, 0, none⟩) 2 wc14.h.a) (by repeat constructor)) (a (sl tLi (some ⟨u5, 0, none⟩) 2 wc14.b) (by repeat constructor)), rfl⟩) (by simp) ?_
  refine go_call (law13F 1 _ 2 2) rfl rfl (by rfl) rfl (by repeat constructor) (by repeat constructor) (fun _ v Ps' Os' hq => by obtain ⟨rfl, rfl, rfl⟩ := hq; exact satS (by repeat constructor) (by repeat constructor)) ?_
  rintro _ _ _ ⟨rfl, rfl, rfl⟩
  refine go_pure1 Tk rfl rfl rfl ?_
  refine go_bslice Tk rfl rfl rfl rfl rfl rfl rfl rfl (fun _ _ => satA) ?_
  intro bf
  refine go_lit tFa (b := bf) wn14 (by repeat constructor) (fun hp a => ⟨[_, _], _, rfl, tFa_mk (x := (⟨1, [10, 11]⟩ : Fa)) (a (sl tU _ _ [10, 11]) (by repeat constructor)), [_, _], _, rfl, tFa_mk (x := (⟨1, [11, 12]⟩ : Fa)) (a (sl tU _ _ [11, 12]) (by repeat constructor)), [_, _], [], rfl, tFa_mk (x := (⟨1, [12, 13]⟩ : Fa)) (a (sl tU _ _ [12, 13]) (by repeat constructor)), rfl⟩) (by decide) ?_
  refine go_pure1 Tk rfl rfl rfl ?_
  refine go_nil ?_
  refine go_env [(0, _), (1, _)] ⟨rfl, rfl, trivial⟩ ?_
  refine go_ret ⟨rfl, rfl⟩ _ _ (res2 (by rfl) (.tmp rfl) (.tmp rfl)) ⟨_, _, rfl, rfl, rfl⟩ (by repeat constructor) (by repeat constructor)
 refine go_call (law13F 1 _ 2 2) rfl rfl (by rfl) rfl (by repeat constructor) (by repeat constructor) (fun _ v Ps' Os' hq => by obtain ⟨rfl, rfl, rfl⟩ := hq; exact satS (by repeat constructor) (by repeat constructor)) ?_
 rintro _ _ _ ⟨rfl, rfl, rfl⟩
 refine go_two ?_ ?_
 ·skip
  refine go_bslice Tk rfl rfl rfl rfl rfl rfl rfl rfl (fun h => nomatch h) ?_
  intro bs
  refine go_lit tCl (b := bs) [wc14] (by repeat constructor) (fun hp a => ⟨[.int .u32 wc14.h.p, .slice (some ⟨u1, 0, none⟩) wc14.h.a.length 2, .slice (some ⟨u5, 0, none⟩) wc14.b.length 2], [], rfl, tCl_mk (a (sl tTm (some ⟨u1, 0, none⟩) 2 wc14.h.a) (by repeat constructor)) (a (sl tLi (some ⟨u5, 0, none⟩) 2 wc14.b) (by repeat constructor)), rfl⟩) (by simp) ?_
  refine go_pure1 Tk rfl rfl rfl ?_
  refine go_bslice Tk rfl rfl rfl rfl rfl rfl rfl rfl (fun _ _ => satA) ?_
  intro bf
  refine go_lit tFa (b := bf) wn14 (by repeat constructor) (fun hp a => ⟨[_, _], _, rfl, tFa_mk (x := (⟨1, [10, 11]⟩ : Fa)) (a (sl tU _ _ [10, 11]) (by repeat constructor)), [_, _], _, rfl, tFa_mk (x := (⟨1, [11, 12]⟩ : Fa)) (a (sl tU _ _ [11, 12]) (by repeat constructor)), [_, _], [], rfl, tFa_mk (x := (⟨1, [12, 13]⟩ : Fa)) (a (sl tU _ _ [12, 13]) (by repeat constructor)), rfl⟩) (by decide) ?_
  refine go_pure1 Tk rfl rfl rfl ?_
  refine go_nil ?_
  refine go_env [(0, _), (1, _)] ⟨rfl, rfl, trivial⟩ ?_
  refine go_ret ⟨rfl, rfl⟩ _ _ (res2 (by rfl) (.tmp rfl) (.tmp rfl)) ⟨_, _, rfl, rfl, rfl⟩ (by repeat constructor) (by repeat constructor)
 refine go_bslice Tk rfl rfl rfl rfl rfl rfl rfl rfl (fun _ _ => satA) ?_
 intro bf
 refine go_lit tFa (b := bf) wn14 (by repeat constructor) (fun hp a => ⟨[_, _], _, rfl, tFa_mk (x := (⟨1, [10, 11]⟩ : Fa)) (a (sl tU _ _ [10, 11]) (by repeat constructor)), [_, _], _, rfl, tFa_mk (x := (⟨1, [11, 12]⟩ : Fa)) (a (sl tU _ _ [11, 12]) (by repeat constructor)), [_, _], [], rfl, tFa_mk (x := (⟨1, [12, 13]⟩ : Fa)) (a (sl tU _ _ [12, 13]) (by repeat constructor)), rfl⟩) (by decide) ?_
 refine go_bslice Tk rfl rfl rfl rfl rfl rfl rfl rfl (fun h => nomatch h) ?_
 intro bs
 refine go_lit tCl (b := bs) [wc14] (by repeat constructor) (fun hp a => ⟨[.int .u32 wc14.h.p, .slice (some ⟨u1, 0, none⟩) wc14.h.a.length 2, .slice (some ⟨u5, 0, none⟩) wc14.b.length 2], [], rfl, tCl_mk (a (sl tTm (some ⟨u1, 0, none⟩) 2 wc14.h.a) (by repeat constructor)) (a (sl tLi (some ⟨u5, 0, none⟩) 2 wc14.b) (by repeat constructor)), rfl⟩) (by simp) ?_
 iterate 2 refine go_pure1 Tk rfl rfl rfl ?_
 refine go_nil ?_
 refine go_env [(0, _), (1, _)] ⟨rfl, rfl, trivial⟩ ?_
 refine go_ret ⟨rfl, rfl⟩ _ _ (res2 (by rfl) (.tmp rfl) (.tmp rfl)) ⟨_, _, rfl, rfl, rfl⟩ (by repeat constructor) (by repeat constructor)

set_option maxHeartbeats 2000000 in
set_option maxRecDepth 20000 in
theorem lawWorks14  :
    Spec Tryz.prog 15 #[] [] [] (fun v Ps' Os' => v = .bool true ∧ Ps' = [] ∧ Os' = []) := by
 refine spec_of (fn := Tryz.f15) (args := []) 48 Tryz.func15 rfl (by kernel_rfl) Tryz.ntmps15 (Nat.le_of_ble_eq_true rfl) (fun w0 hp0 hf0 => ?_)
 refine go_seq ?_
 refine go_region rfl ?_
 refine go_pure0 Tk rfl rfl rfl ?_
 refine go_nil ?_
 refine go_env [] trivial ?_
 refine go_seq ?_
 refine go_region rfl ?_
 refine go_call (law14chain) rfl rfl (by rfl) rfl (by repeat constructor) (by repeat constructor) (fun h => nomatch h) ?_
 rintro _ _ _ ⟨A, B, rfl, rfl, rfl⟩
 iterate 5 refine go_pure0 Tk rfl rfl rfl ?_
 refine go_nil ?_
 refine go_env [(1, _), (2, _)] ⟨rfl, rfl, trivial⟩ ?_
 iterate 4 first | refine go_seq ?_ | refine go_region rfl ?_ | refine go_pure0 Tk rfl rfl rfl ?_
 refine go_call (relOf B 3 wn14 (by decide) (fun x hx => (wn14_ok x hx).2)) rfl rfl (by rfl) rfl (by repeat constructor) (by repeat constructor) (fun h => nomatch h) ?_
 rintro _ _ _ ⟨b1, rfl, rfl, rfl⟩
 refine go_freeze_rel (b := b1) (by repeat constructor) ?_
 refine go_ent (relN (some ⟨b1, 0, none⟩) (fof wn14)) (fun hh hps => relN_some (hps (relP b1 (fof wn14)) (by repeat constructor))) ?_
 refine go_call (fixLeast [wc14] A 1 (some ⟨b1, 0, none⟩) (fof wn14) 6 (fun c hc => by rw [List.mem_singleton] at hc; subst hc; exact wc14_ok) (fun x hx => wn14_ok x (mem_fof.1 hx)) (rises_fof _) (by omega) (w_big (by omega)) (Nat.le_trans (fof_len _) (by decide))) rfl rfl (by rfl) rfl (by repeat constructor) (by repeat constructor) (fun h => nomatch h) ?_
 rintro _ _ _ ⟨r6, n6, e6, p6, hL6, rfl, rfl, rfl⟩
 obtain ⟨S6, rfl, hS6, rfl, rfl⟩ := w_six hL6
 refine go_relRs (S := S6) (by repeat constructor) (fun bb hb => ?_)
 subst hb
 iterate 7 refine go_pure0 Tk rfl rfl rfl ?_
 refine go_nil ?_
 refine go_env [(1, _), (2, _), (3, _), (4, _), (5, _)] ⟨rfl, rfl, rfl, rfl, rfl, trivial⟩ ?_
 iterate 4 first | refine go_seq ?_ | refine go_region rfl ?_ | refine go_pure0 Tk rfl rfl rfl ?_
 refine go_call (relOf B 3 wn14 (by decide) (fun x hx => (wn14_ok x hx).2)) rfl rfl (by rfl) rfl (by repeat constructor) (by repeat constructor) (fun h => nomatch h) ?_
 rintro _ _ _ ⟨b2, rfl, rfl, rfl⟩
 refine go_freeze_rel (b := b2) (by repeat constructor) ?_
 refine go_ent (relN (some ⟨b2, 0, none⟩) (fof wn14)) (fun hh hps => relN_some (hps (relP b2 (fof wn14)) (by repeat constructor))) ?_
 refine go_call (fixLeast [wc14] A 1 (some ⟨b2, 0, none⟩) (fof wn14) 5 (fun c hc => by rw [List.mem_singleton] at hc; subst hc; exact wc14_ok) (fun x hx => wn14_ok x (mem_fof.1 hx)) (rises_fof _) (by omega) (w_big (by omega)) (Nat.le_trans (fof_len _) (by decide))) rfl rfl (by rfl) rfl (by repeat constructor) (by repeat constructor) (fun h => nomatch h) ?_
 rintro _ _ _ ⟨r5, n5, e5, p5, hL5, rfl, rfl, rfl⟩
 obtain ⟨rfl, rfl, rfl⟩ := w_five hL5
 iterate 7 refine go_pure0 Tk rfl rfl rfl ?_
 refine go_nil ?_
 refine go_env [(3, _), (4, _), (5, _), (8, _)] ⟨rfl, rfl, rfl, rfl, trivial⟩ ?_
 iterate 4 first | refine go_seq ?_ | refine go_region rfl ?_ | refine go_pure0 Tk rfl rfl rfl ?_
 refine go_re 30 (.bool true) (by show some (Value.bool _) = _; first | rfl | simp) ?_
 iterate 2 refine go_pure0 Tk rfl rfl rfl ?_
 refine go_call (relLen bb S6) rfl rfl (by rfl) rfl (by repeat constructor) (by repeat constructor) (fun h => nomatch h) ?_
 rintro _ _ _ ⟨rfl, rfl, rfl⟩
 refine go_pure0 Tk rfl rfl rfl ?_
 refine go_re 34 (.bool true) (by show some (Value.bool _) = _; rw [decide_eq_true (by rw [hS6]; rfl)]) ?_
 iterate 4 refine go_pure0 Tk rfl rfl rfl ?_
 refine go_re 38 (.bool true) (by show some (Value.bool _) = _; first | rfl | simp) ?_
 iterate 4 refine go_pure0 Tk rfl rfl rfl ?_
 refine go_re 42 (.bool true) (by show some (Value.bool _) = _; first | rfl | simp) ?_
 iterate 4 refine go_pure0 Tk rfl rfl rfl ?_
 refine go_re 46 (.bool true) (by show some (Value.bool _) = _; first | rfl | simp) ?_
 iterate 2 refine go_pure0 Tk rfl rfl rfl ?_
 refine go_nil ?_
 refine go_env [(0, _)] ⟨rfl, trivial⟩ ?_
 refine go_ret ⟨rfl, rfl⟩ _ _ (res1 (by rfl) (.tmp rfl)) ⟨rfl, rfl, rfl⟩ (by repeat constructor) (by repeat constructor)

end Go.Proofs.YtkhddfknpegpmaaGreat.SL

/- Rows of literals with the places of their Args. -/
set_option linter.unusedVariables false
set_option linter.unusedSimpArgs false
namespace Go.Proofs.YtkhddfknpegpmaaGreat.SL
structure Ly where
  l : Li
  A : Option Addr
  c : Nat
section
variable {C : Ctx} {k : List It} {E : Env} {Ps : List PA} {Os : List OA}
end
theorem heldC_no {c : Cl} (h : ¬ heldP c) : heldC c = false := Bool.eq_false_iff.2 fun e => h (heldC_iff.1 e)
end Go.Proofs.YtkhddfknpegpmaaGreat.SL

/- Clauses as the document sees them: which are right, one behind another. -/
set_option linter.unusedVariables false
set_option linter.unusedSimpArgs false
namespace Go.Proofs.YtkhddfknpegpmaaGreat.SL
theorem heldBy_next {h : Am} {b : List Li} {m : Nat} (hm : m < b.length) (n : Int) : n ∈ heldBy ⟨h, b.take (m + 1)⟩ ↔ n ∈ heldBy ⟨h, b.take m⟩ ∨ (b[m].no = false ∧ n ∈ vars b[m].a) := by
  rw [mem_heldBy, mem_heldBy, mem_vars, List.take_succ_eq_append_getElem hm]
  constructor
  · rintro ⟨l, hl, e, t⟩
    rcases List.mem_append.1 hl with hl | hl
    · exact .inl ⟨l, hl, e, t⟩
    · rw [List.mem_singleton] at hl; subst hl; exact .inr ⟨e, t⟩
  · rintro (⟨l, hl, e, t⟩ | ⟨e, t⟩)
    · exact ⟨l, List.mem_append_left _ hl, e, t⟩
    · exact ⟨b[m], List.mem_append_right _ (.head _), e, t⟩
theorem held_a {h : Am} {b : List Li} {m : Nat} (hm : m < b.length) {n : Int} (g : n ∈ heldBy ⟨h, b.take m⟩) : decide (n ∈ heldBy ⟨h, b.take (m + 1)⟩) = true := decide_eq_true ((heldBy_next hm n).2 (.inl g))
theorem held_b {h : Am} {b : List Li} {m : Nat} (hm : m < b.length) {n : Int} (g : ¬ n ∈ heldBy ⟨h, b.take m⟩) (e : b[m].no = false) : decide (n ∈ heldBy ⟨h, b.take (m + 1)⟩) = decide (n ∈ vars b[m].a) := by
  rw [decide_eq_decide, heldBy_next hm]; simp [g, e]
theorem held_c {h : Am} {b : List Li} {m : Nat} (hm : m < b.length) {n : Int} (g : ¬ n ∈ heldBy ⟨h, b.take m⟩) (e : b[m].no = true) : decide (n ∈ heldBy ⟨h, b.take (m + 1)⟩) = false := by
  rw [decide_eq_false_iff_not, heldBy_next hm]; simp [g, e]
theorem held_full {c : Cl} {m : Nat} (hm : c.b.length ≤ m) {n : Int} (g : n ∈ heldBy ⟨c.h, c.b.take m⟩) : n ∈ heldBy c := by rw [List.take_of_length_le hm] at g; exact g
/-- Are all variables of an atom held by a clause? -/
def heldIn (c : Cl) (a : Am) : Bool := decide (∀ t ∈ a.a, t.v = true → t.n ∈ heldBy c)
theorem heldIn_yes {c : Cl} {a : Am} (h : ∀ t ∈ a.a, t.v = true → t.n ∈ heldBy c) : heldIn c a = true := decide_eq_true h
theorem heldIn_no {c : Cl} {a : Am} {t : Tm} (ht : t ∈ a.a) (e : t.v = true) (h : ¬ t.n ∈ heldBy c) : heldIn c a = false := decide_eq_false fun q => h (q t ht e)
theorem heldIn_iff {c : Cl} {a : Am} : heldIn c a = true ↔ ∀ t ∈ a.a, t.v = true → t.n ∈ heldBy c := by unfold heldIn; rw [decide_eq_true_iff]
def atomsL (l : List Cl) : List Am := l.flatMap atomsC
theorem atomsL_next {l : List Cl} {k : Nat} (hk : k < l.length) : atomsL (l.take (k + 1)) = atomsL (l.take k) ++ atomsC l[k] := by
  unfold atomsL
  rw [List.take_succ_eq_append_getElem hk, List.flatMap_append]; simp
theorem atomsC_next {h : Am} {b : List Li} {k : Nat} (hk : k < b.length) : atomsC ⟨h, b.take k⟩ ++ [b[k].a] = atomsC ⟨h, b.take (k + 1)⟩ := by
  unfold atomsC
  simp only
  rw [List.take_succ_eq_append_getElem hk, List.map_append]; rfl
theorem atomsC_len (c : Cl) : (atomsC c).length = c.b.length + 1 := by simp [atomsC]
theorem sameLen_next {X : List Am} {i : Nat} (hi : i < X.length) (h : sameLen (X.take i)) (g : ∀ b ∈ X.take i, X[i].p = b.p → X[i].a.length = b.a.length) : sameLen (X.take (i + 1)) := by
  intro a ha b hb e
  rw [List.take_succ_eq_append_getElem hi, List.mem_append, List.mem_singleton] at ha hb
  rcases ha with ha | rfl <;> rcases hb with hb | rfl
  · exact h a ha b hb e
  · exact (g a ha e.symm).symm
  · exact g b hb e
  · rfl
/-- What lengths were learnt of. -/
def LensOf (L : Lens) (X : List Am) : Prop := (∀ p n, L p = some n → ∃ a ∈ X, a.p = p ∧ n = (a.a.length : Int)) ∧ ∀ a ∈ X, ∃ n, L a.p = some n
theorem LensOf.nil : LensOf (fun _ => none) [] := ⟨fun _ _ h => (nomatch h), fun _ h => nomatch h⟩
theorem LensOf.step {L : Lens} {X : List Am} (h : LensOf L X) (a : Am) : LensOf (learn L a.p a.a.length) (X ++ [a]) := by
  refine ⟨fun p n e => ?_, fun b hb => ?_⟩
  · unfold learn at e
    split at e
    · rename_i q
      cases e
      exact ⟨a, List.mem_append_right _ (.head _), q.1.symm, rfl⟩
    · obtain ⟨b, hb, g⟩ := h.1 p n e
      exact ⟨b, List.mem_append_left _ hb, g⟩
  · unfold learn
    split
    · exact ⟨_, rfl⟩
    · rename_i q
      rcases List.mem_append.1 hb with hb | hb
      · exact h.2 b hb
      · rw [List.mem_singleton] at hb
        subst hb
        cases e : L b.p with
        | none => exact absurd ⟨rfl, e⟩ q
        | some n => exact ⟨n, rfl⟩
theorem LensOf.fold : ∀ (Y : List Am) {x : Bool × Lens} {X : List Am}, LensOf x.2 X → LensOf (Y.foldl stepL x).2 (X ++ Y)
  | [], x, X, h => by simpa using h
  | a :: Y, x, X, h => by
    rw [List.foldl_cons, show X ++ a :: Y = (X ++ [a]) ++ Y by simp]
    exact LensOf.fold Y (x := stepL x a) (h.step a)
theorem LensOf.clause {L : Lens} {X : List Am} (h : LensOf L X) (c : Cl) : LensOf (clauseL L c).2 (X ++ atomsC c) := by
  have : clauseL L c = (atomsC c).foldl stepL (true, L) := by
    unfold clauseL atomsC
    rw [List.foldl_cons, List.foldl_map]
  rw [this]
  exact LensOf.fold (atomsC c) (x := (true, L)) h
theorem lens_all {L : Lens} {X : List Am} (h : LensOf L X) (hx : sameLen X) (c : Cl) : (clauseL L c).1 = true ↔ sameLen (X ++ atomsC c) := by
  rw [clause_lens]
  constructor
  · rintro ⟨h1, h2⟩ a ha b hb e
    have key : ∀ x ∈ X, ∀ y ∈ atomsC c, x.p = y.p → x.a.length = y.a.length := fun x hx' y hy q => by
      obtain ⟨n, hn⟩ := h.2 x hx'
      obtain ⟨z, hz, g1, g2⟩ := h.1 _ _ hn
      have g3 := h1 y hy n (by rw [← q]; exact hn)
      have g4 := hx x hx' z hz g1.symm
      omega
    rcases List.mem_append.1 ha with ha | ha <;> rcases List.mem_append.1 hb with hb | hb
    · exact hx a ha b hb e
    · exact key a ha b hb e
    · exact (key b hb a ha e.symm).symm
    · exact h2 a ha b hb e
  · intro g
    refine ⟨fun a ha k q => ?_, fun a ha b hb e => g a (List.mem_append_right _ ha) b (List.mem_append_right _ hb) e⟩
    obtain ⟨b, hb, g1, g2⟩ := h.1 _ _ q
    have := g a (List.mem_append_right _ ha) b (List.mem_append_left _ hb) g1.symm
    omega
theorem fold_next {l : List Cl} {k : Nat} (hk : k < l.length) : (l.take (k + 1)).foldl (fun L c => (clauseL L c).2) (fun _ => none) = (clauseL ((l.take k).foldl (fun L c => (clauseL L c).2) (fun _ => none)) l[k]).2 := by
  rw [List.take_succ_eq_append_getElem hk, List.foldl_append]; rfl
/-! ### choices, as the document makes them -/
theorem agC_set {c : Ch} (hc : c.ok) {j : Nat} (hj : j < 16) {v : Int} (h : c.2[j]? = some false ∨ c.1[j]? = some v) (s : Int → Int) : agC (c.1.set j v, c.2.set j true) s ↔ agC c s ∧ s (j : Int) = v := by
  unfold agC
  simp only [set_at, hc.f, hc.i]
  constructor
  · intro g
    have h1 : s (j : Int) = v := by have := g j (by simp [hj]); simpa [hj] using this
    refine ⟨fun i q => ?_, h1⟩
    by_cases e : j = i
    · subst e
      rcases h with h | h
      · rw [h] at q; cases q
      · rw [h, h1]; rfl
    · have := g i (by rw [if_neg (fun z => e z.1)]; exact q)
      rwa [if_neg (fun z => e z.1)] at this
  · rintro ⟨g, h1⟩ i q
    by_cases e : j = i
    · subst e
      rw [if_pos ⟨rfl, hj⟩, h1]; rfl
    · rw [if_neg (fun z => e z.1)] at q ⊢
      exact g i q
theorem ap_fits {s : Int → Int} {a : Am} {f : Fa} (e : f = ap s a) (i : Nat) : fits s a.a f.a i := by subst e; exact fits_of_Mt i
theorem fits_ap {s : Int → Int} {a : Am} {f : Fa} (hp : a.p = f.p) (hl : a.a.length = f.a.length) (h : fits s a.a f.a a.a.length) : f = ap s a := by
  obtain ⟨p, l⟩ := f
  simp only at hp hl h
  unfold ap
  rw [hp]
  congr 1
  apply List.ext_getElem?
  intro k
  rcases Nat.lt_or_ge k a.a.length with q | q
  · rw [List.getElem?_map, List.getElem?_eq_getElem q, List.getElem?_eq_getElem (by omega)]
    simp only [Option.map_some, Option.some.injEq]
    exact (h k _ _ q (List.getElem?_eq_getElem q) (List.getElem?_eq_getElem (by omega))).symm
  · rw [List.getElem?_eq_none (by omega), List.getElem?_eq_none (by simpa using q)]
/-- The choice so far: it agrees with just those that fit so far. -/
def soFar (c0 c : Ch) (a : Am) (f : Fa) (k : Nat) : Prop := ∀ s, agC c s ↔ agC c0 s ∧ fits s a.a f.a k
theorem soFar.zero (c : Ch) (a : Am) (f : Fa) : soFar c c a f 0 := fun s => ⟨fun h => ⟨h, fits_zero _ _ _⟩, fun h => h.1⟩
theorem soFar.same {c0 c : Ch} {a : Am} {f : Fa} {k : Nat} (h : soFar c0 c a f k) (h1 : k < a.a.length) (h2 : k < f.a.length) (hv : a.a[k].v = false) (e : a.a[k].n = f.a[k]) : soFar c0 c a f (k + 1) := fun s => by
  rw [fits_next h1 h2, h s]
  simp [tv, hv, e]
theorem soFar.set {c0 c : Ch} {a : Am} {f : Fa} {k : Nat} (h : soFar c0 c a f k) (hc : c.ok) (h1 : k < a.a.length) (h2 : k < f.a.length) (hv : a.a[k].v = true) {j : Nat} (hj : a.a[k].n = (j : Int)) (hj16 : j < 16) (g : c.2[j]? = some false ∨ c.1[j]? = some f.a[k]) :
    soFar c0 (c.1.set j f.a[k], c.2.set j true) a f (k + 1) := fun s => by
  rw [fits_next h1 h2, agC_set hc hj16 g, h s]
  simp only [tv, hv, if_true, hj, and_assoc]
theorem soFar.end_ {c0 c : Ch} {a : Am} {f : Fa} (hv : vok a) (h : soFar c0 c a f a.a.length) (hp : a.p = f.p) (hl : a.a.length = f.a.length) : mtch (putA c0.1 c0.2 a) f = true := by
  rw [mtch_put hv]
  obtain ⟨g1, g2⟩ := (h (over c fun _ => 0)).1 (over_ag _ _)
  exact ⟨_, g1, fits_ap hp hl g2⟩
theorem soFar.no1 {c0 c : Ch} {a : Am} {f : Fa} {k : Nat} (hv : vok a) (h1 : k < a.a.length) (h2 : k < f.a.length) (e : a.a[k].v = false) (g : ¬ a.a[k].n = f.a[k]) : mtch (putA c0.1 c0.2 a) f = false := by
  refine Bool.eq_false_iff.2 fun q => ?_
  obtain ⟨s, _, e2⟩ := (mtch_put hv).1 q
  have := ((fits_next h1 h2).1 (ap_fits e2 (k + 1))).2
  simp [tv, e] at this
  exact g this
theorem soFar.no2 {c0 c : Ch} {a : Am} {f : Fa} {k : Nat} (hv : vok a) (h : soFar c0 c a f k) (h1 : k < a.a.length) (h2 : k < f.a.length) (e : a.a[k].v = true) {j : Nat} (hj : a.a[k].n = (j : Int)) (g1 : c.2[j]? = some true) {v : Int} (g2 : c.1[j]? = some v) (g : ¬ v = f.a[k]) : mtch (putA c0.1 c0.2 a) f = false := by
  refine Bool.eq_false_iff.2 fun q => ?_
  obtain ⟨s, e1, e2⟩ := (mtch_put hv).1 q
  have h3 := (h s).2 ⟨e1, ap_fits e2 k⟩
  have h4 := h3 j g1
  rw [g2] at h4
  have := ((fits_next h1 h2).1 (ap_fits e2 (k + 1))).2
  simp only [tv, e, if_true, hj] at this
  exact g (by rw [← this, h4]; rfl)
theorem mtch_shape {c : Ch} {a : Am} {f : Fa} (h : a.p ≠ f.p ∨ a.a.length ≠ f.a.length) : mtch (putA c.1 c.2 a) f = false := mtch_no fun h1 h2 => by
  simp only [putA, List.length_map] at h1 h2
  exact h.elim (fun q => q h1) (fun q => q h2)
/-- What an atom becomes by the document's choice. -/
def refT (few : List Int) (t : Tm) : Int := if t.v = true then (few[t.n.toNat]?).getD 0 else t.n
def refF (few : List Int) (a : Am) : Fa := ⟨a.p, a.a.map (refT few)⟩
theorem refF_eq {c : Ch} {a : Am} (hv : vok a) (hd : ∀ t ∈ a.a, t.v = true → domC c t.n) : ofA (putA c.1 c.2 a) = refF c.1 a := by
  rw [ofA_put hv (over_ag c fun _ => 0) hd]
  unfold ap refF
  congr 1
  refine List.map_congr_left fun t ht => ?_
  unfold tv refT over
  split
  · rename_i e; rw [if_pos (hd t ht e).2]
  · rfl
/-- Each variable that is held has a symbol, or will have. -/
def domTo (c : Cl) (r : List Li) (ch : Ch) : Prop := ∀ n ∈ heldBy c, domC ch n ∨ ∃ l ∈ r, l.no = false ∧ ∃ t ∈ l.a.a, t.v = true ∧ t.n = n
theorem domTo.start (c : Cl) : domTo c c.b ch0 := fun n hn => .inr (mem_heldBy.1 hn)
theorem domTo.not {c : Cl} {ch : Ch} {i : Nat} (h : domTo c (c.b.drop i) ch) (hi : i < c.b.length) (e : c.b[i].no = true) : domTo c (c.b.drop (i + 1)) ch := fun n hn => (h n hn).imp id fun ⟨m, hm, h1, h2⟩ => by
  rw [List.drop_eq_getElem_cons hi] at hm
  rcases List.mem_cons.1 hm with rfl | hm
  · rw [e] at h1; cases h1
  · exact ⟨m, hm, h1, h2⟩
theorem domTo.yes {c : Cl} {ch : Ch} {i : Nat} (h : domTo c (c.b.drop i) ch) (hi : i < c.b.length) (hv : vok c.b[i].a) (hok : ch.ok) (f : List Int) : domTo c (c.b.drop (i + 1)) (meetL f ch c.b[i].a.a 0) := fun n hn => by
  rw [meet_dom c.b[i].a.a ch f 0 n hv hok]
  rcases h n hn with h | ⟨m, hm, h1, h2⟩
  · exact .inl (.inl h)
  · rw [List.drop_eq_getElem_cons hi] at hm
    rcases List.mem_cons.1 hm with rfl | hm
    · exact .inl (.inr h2)
    · exact .inr ⟨m, hm, h1, h2⟩
theorem domTo.all {c : Cl} {ch : Ch} {i : Nat} (h : domTo c (c.b.drop i) ch) (hi : c.b.length ≤ i) : ∀ n ∈ heldBy c, domC ch n := fun n hn => by
  rw [List.drop_eq_nil_of_le hi] at h
  rcases h n hn with h | ⟨l, hl, _⟩
  · exact h
  · cases hl
theorem flat_filter {α β : Type} (p : α → Bool) (g : α → List β) : ∀ l : List α, (l.filter p).flatMap g = l.flatMap fun f => if p f = true then g f else []
  | [] => rfl
  | a :: l => by
    rw [List.flatMap_cons]
    by_cases e : p a = true
    · rw [List.filter_cons_of_pos e, List.flatMap_cons, if_pos e, flat_filter p g l]
    · rw [List.filter_cons_of_neg e, if_neg e, flat_filter p g l]; rfl
end Go.Proofs.YtkhddfknpegpmaaGreat.SL

